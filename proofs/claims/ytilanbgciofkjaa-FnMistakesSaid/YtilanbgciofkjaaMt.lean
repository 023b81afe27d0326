/- Texts that other texts share. -/
import Derived.Test.YtilanbgciofkjaaMb
import Derived.Test.YtilanbgciofkjaaPAx10
import Derived.Deep.MidRow
import Derived.Deep.WholeRow
import Derived.WalkSpells
import Derived.ChangeKeysEq
namespace Go.Proofs.Ytilanbgciofkjaa.PA
open Go.RowKit Go.Proofs.YtilanbgciofkjaaW.PrintWords Go.Proofs.YtilanbgciofkjaaW.PrintLast Go.Proofs.YtilanbgciofkjaaW.PrintMore Go.Proofs.Ytilanbgciofkjaa.Pure
attribute [local go_sem] max2_int min2_int max_two min_two max_three min_three max_four min_four
set_option linter.unusedVariables false
set_option linter.unusedSimpArgs false
abbrev vI (x : Int) : Value := .int .i64 x
def tabA (n : Int) (s : Value) (C E : List Int) : Array Value := (vI n :: s :: (C ++ E).map vI).toArray
/-- the table lies in block T -/
def TabB (w : World) (T : Nat) (n : Int) (s : Value) (C E : List Int) : Prop := w.heap[T]? = some (.cells (tabA n s C E) 67 (0, 0))
theorem TabB.range {w : World} {T : Nat} {n : Int} {s : Value} {C E : List Int} (h : TabB w T n s C E) : w.rangeAt T 2 (C.map vI) := by
  intro j v hv
  rw [blk_cell h, tabA, List.getElem?_toArray, Nat.add_comm]
  have hj : j < C.length := by have := (List.getElem?_eq_some_iff.1 hv).1; simpa using this
  show ((C ++ E).map vI)[j]? = some v
  rw [List.map_append, List.getElem?_append_left (by simpa using hj)]
  exact hv
theorem TabB.c0 {w : World} {T : Nat} {n : Int} {s : Value} {C E : List Int} (h : TabB w T n s C E) : w.cell? ⟨T, 0, none⟩ = some (.int .i64 n) := (blk_cell h 0).trans rfl
theorem TabB.c1 {w : World} {T : Nat} {n : Int} {s : Value} {C E : List Int} (h : TabB w T n s C E) : w.cell? ⟨T, 1, none⟩ = some s := (blk_cell h 1).trans rfl
theorem TabB.cC {w : World} {T : Nat} {n : Int} {s : Value} {C E : List Int} (h : TabB w T n s C E) (p f : Nat) (hp : p < 8) (hf : f < 8) (hC : C.length = 64) : w.cell? ⟨T, 2 + p * 8 + f, none⟩ = some (.int .i64 (C.getD (8 * p + f) 0)) := by
  rw [blk_cell h, tabA, List.getElem?_toArray, show 2 + p * 8 + f = (8 * p + f) + 2 from by omega]
  show ((C ++ E).map vI)[8 * p + f]? = _
  rw [List.map_append, List.getElem?_append_left (by rw [List.length_map]; omega), List.getElem?_map, List.getElem?_eq_getElem (by omega), List.getD_eq_getElem?_getD, List.getElem?_eq_getElem (by omega)]
  rfl
theorem TabB.cE {w : World} {T : Nat} {n : Int} {s : Value} {C E : List Int} (h : TabB w T n s C E) (p f : Nat) (hp : p < 8) (hf : f < 8) (hC : C.length = 64) (hE : E.length = 64) : w.cell? ⟨T, 66 + p * 8 + f, none⟩ = some (.int .i64 (E.getD (8 * p + f) 0)) := by
  rw [blk_cell h, tabA, List.getElem?_toArray, show 66 + p * 8 + f = (64 + (8 * p + f)) + 2 from by omega]
  show ((C ++ E).map vI)[64 + (8 * p + f)]? = _
  rw [List.map_append, List.getElem?_append_right (by rw [List.length_map]; omega), List.length_map, hC, Nat.add_sub_cancel_left, List.getElem?_map, List.getElem?_eq_getElem (by omega), List.getD_eq_getElem?_getD, List.getElem?_eq_getElem (by omega)]
  rfl
theorem TabB.frozen {w : World} {T : Nat} {n : Int} {s : Value} {C E : List Int} (h : TabB w T n s C E) (i : Nat) : w.frozen? ⟨T, i, none⟩ = false := blk_frozen h i
theorem TabB.setC {w : World} {T : Nat} {n : Int} {s : Value} {C E : List Int} (h : TabB w T n s C E) (p f : Nat) (hp : p < 8) (hf : f < 8) (hC : C.length = 64) (x : Int) : TabB (w.setCell ⟨T, 2 + p * 8 + f, none⟩ (.int .i64 x)) T n s (C.set (8 * p + f) x) E := by
  refine blk_put h _ _ ?_
  rw [tabA, tabA, show 2 + p * 8 + f = (8 * p + f) + 2 from by omega, List.setIfInBounds_toArray, List.set_cons_succ, List.set_cons_succ, ← List.map_set, List.set_append_left _ _ (by omega)]
theorem TabB.setE {w : World} {T : Nat} {n : Int} {s : Value} {C E : List Int} (h : TabB w T n s C E) (p f : Nat) (hp : p < 8) (hf : f < 8) (hC : C.length = 64) (x : Int) : TabB (w.setCell ⟨T, 66 + p * 8 + f, none⟩ (.int .i64 x)) T n s C (E.set (8 * p + f) x) := by
  refine blk_put h _ _ ?_
  rw [tabA, tabA, show 66 + p * 8 + f = (64 + (8 * p + f)) + 2 from by omega, List.setIfInBounds_toArray, List.set_cons_succ, List.set_cons_succ, ← List.map_set, List.set_append_right _ _ (by omega), hC, Nat.add_sub_cancel_left]
theorem TabB.below {w w1 : World} {T : Nat} {n : Int} {s : Value} {C E : List Int} (h : TabB w T n s C E) (hb : Below w.heap.size w w1) : TabB w1 T n s C E := blk_below h hb
theorem TabB.lt {w : World} {T : Nat} {n : Int} {s : Value} {C E : List Int} (h : TabB w T n s C E) : T < w.heap.size := blk_lt h
theorem grown_set (w : World) (a : Addr) (u : Value) : w.grownBy (w.setCell a u) (some a.block) :=
  ⟨rfl, rfl, rfl, by simp [World.setCell], fun i hi hne => Below.heap_setCell w a u i (fun e => hne (by rw [e]))⟩
theorem grown_then {w w1 w2 : World} {T : Nat} (h : w.grownBy w1 (some T)) (hb : Below w1.heap.size w1 w2) : w.grownBy w2 (some T) := h.trans (grown_of_below hb (some T))
theorem grown_set_then {w w1 : World} {T o : Nat} (h : w.grownBy w1 (some T)) (u : Value) : w.grownBy (w1.setCell ⟨T, o, none⟩ u) (some T) := h.trans (grown_set w1 ⟨T, o, none⟩ u)
theorem grown_kept {w w1 : World} {T : Nat} (h : w.grownBy w1 (some T)) : Kept w w1 (fun k => k = T) := ⟨h.size, fun i hi hn => h.block i hi (fun e => hn (by injection e))⟩
theorem grown_draw {w w1 : World} {T : Nat} (h : w.grownBy w1 (some T)) (m : Nat) : w.grownBy (w1.drewN m) (some T) := ⟨h.os, h.tape, h.output, h.size, h.block⟩
/-- the list of a graph's rows stays readable whatever happens to block T -/
def RowS (w : World) (T : Nat) (A : Option Addr) (l : List Int) : Prop := ∀ W', w.grownBy W' (some T) → Kd.C (Kd.int .i64) W' A l.length l
theorem RowS.now {w w1 : World} {T : Nat} {A : Option Addr} {l : List Int} (h : RowS w T A l) (hg : w.grownBy w1 (some T)) : Kd.C (Kd.int .i64) w1 A l.length l := h w1 hg
theorem RowS.step {w w1 : World} {T : Nat} {A : Option Addr} {l : List Int} (h : RowS w T A l) (hg : w.grownBy w1 (some T)) : RowS w1 T A l := fun W' h' => h W' (hg.trans h')
theorem RowS.of {w : World} {T : Nat} {A : Option Addr} {l : List Int} (h : Kd.C (Kd.int .i64) w A l.length l) (hT : ∀ ad, A = some ad → 0 < l.length → ad.block ≠ T) : RowS w T A l := fun W' hg =>
  ⟨h.1, h.2.1, fun hn => by
    obtain ⟨ad, he, hc⟩ := h.2.2 hn
    refine ⟨ad, he, fun j p hj => ?_⟩
    obtain ⟨cs, h1, h2, h3⟩ := hc j p hj
    exact ⟨cs, h1, h2, fun i u hu => cell_kept (h3 i u hu) (grown_kept hg) (by rw [add_block]; exact hT ad he hn)⟩⟩

section
variable {a : Act} {o : Oper} {W : World}
theorem row_run (x y : Operand) (ho : o.op = .indexAddr 65 x y) (g off p : Nat) (hx : a.eval x = .pointer (some ⟨g, off, none⟩)) (hy : a.eval y = .int .i64 (p : Int)) (hp : p < 8) : (execOp a.eval o).run Try.prog W = .ok (.value (.pointer (some ⟨g, off + p * 8, none⟩))) W := by
  have h0 : (0 : Int) ≤ (p : Int) := Int.natCast_nonneg _
  have h8 : (p : Int) < 8 := by omega
  unfold execOp
  rw [ho]
  simp only [hx, hy]
  clear hx hy ho
  go_simp
  all_goals (try rfl)
theorem col_run (x y : Operand) (ho : o.op = .indexAddr 64 x y) (g off p : Nat) (hx : a.eval x = .pointer (some ⟨g, off, none⟩)) (hy : a.eval y = .int .i64 (p : Int)) (hp : p < 8) : (execOp a.eval o).run Try.prog W = .ok (.value (.pointer (some ⟨g, off + p, none⟩))) W := by
  have h0 : (0 : Int) ≤ (p : Int) := Int.natCast_nonneg _
  have h8 : (p : Int) < 8 := by omega
  unfold execOp
  rw [ho]
  simp only [hx, hy]
  clear hx hy ho
  go_simp
  all_goals (try rfl)
theorem load_run (x : Operand) (ho : o.op = .load 3 x) (g off : Nat) (v : Int) (hx : a.eval x = .pointer (some ⟨g, off, none⟩)) (hc : W.cell? ⟨g, off, none⟩ = some (.int .i64 v)) : (execOp a.eval o).run Try.prog W = .ok (.value (.int .i64 v)) W := by
  unfold execOp
  rw [ho]
  simp only [hx]
  clear hx ho
  go_simp
  all_goals (try rfl)
theorem put_run (x y : Operand) (ho : o.op = .store 3 x y) (g off : Nat) (u : Value) (v : Int) (hx : a.eval x = .pointer (some ⟨g, off, none⟩)) (hy : a.eval y = .int .i64 v) (hc : W.cell? ⟨g, off, none⟩ = some u) (hf : W.frozen? ⟨g, off, none⟩ = false) : (execOp a.eval o).run Try.prog W = .ok .skip (W.setCell ⟨g, off, none⟩ (.int .i64 v)) := by
  unfold execOp
  rw [ho]
  simp only [hx, hy]
  clear hx hy ho
  go_simp
  all_goals (try rfl)
end
/-- the two calls that make the list of a vertex and its neighbours -/
theorem stay_c {n : Int} {l : List Int} (g : GOk n l) (v : Nat) (hv : v < l.length) (A : Option Addr) (c : Nat) (hc : l.length ≤ c) (w : World) (hr : Kd.C (Kd.int .i64) w A l.length l) :
    Calls Try.prog 94 #[.agg #[.int .i64 n, .slice A l.length c], .int .i64 (v : Int)] w fun e w' => e = .returned (.int .i64 ((stayN l v : Nat) : Int)) ∧ Below w.heap.size w w' :=
  impl_Graph_stay.calls n A c l v _ w hr hc (stayN_impl g v hv)
theorem list_c {n : Int} {l : List Int} (g : GOk n l) (v : Nat) (hv : v < l.length) (w : World) :
    Calls Try.prog 86 #[.int .i64 ((stayN l v : Nat) : Int)] w fun e w' => ∃ A c, e = .returned (.slice A (stayL l v).length c) ∧ Kd.R (Kd.int .i64) 3 w' w.heap.size (fun _ => True) (.slice A (stayL l v).length c) (stayL l v) ∧ Below w.heap.size w w' := by
  obtain ⟨k, hk⟩ := (list_impl (stayN l v) (stayN_lt8 g v hv)).rounds
  refine (impl_ListSet.calls k _ _ w hk).mono ?_
  rintro e w' ⟨v0, rfl, h1, h2⟩
  obtain ⟨A, c, e⟩ := Kd.R_slice h1
  subst e
  exact ⟨A, c, rfl, h1, h2⟩
end Go.Proofs.Ytilanbgciofkjaa.PA

namespace Go.Proofs.Ytilanbgciofkjaa.PA
open Go.RowKit Go.Proofs.YtilanbgciofkjaaW.PrintWords Go.Proofs.YtilanbgciofkjaaW.PrintLast Go.Proofs.YtilanbgciofkjaaW.PrintMore Go.Proofs.Ytilanbgciofkjaa.Pure
set_option linter.unusedVariables false
set_option linter.unusedSimpArgs false
theorem eqItems_gen {P : Program} (w : World) (d : Nat) (e : TypeId) (c : Nat) (xs ys : Array Value) (a b : Nat → Value) (q : Nat → Bool) : ∀ is : List Nat,
    (∀ i ∈ is, (part e xs (i * c)).run P w = .ok (a i) w ∧ (part e ys (i * c)).run P w = .ok (b i) w ∧ (Op.equalIn d e (a i) (b i)).run P w = .ok (q i) w) → (Op.eqItems d e c xs ys is).run P w = .ok (is.all q) w
  | [], _ => by simp [Op.eqItems]
  | i :: is, h => by
    obtain ⟨h1, h2, h3⟩ := h i List.mem_cons_self
    have ih := eqItems_gen w d e c xs ys a b q is (fun j hj => h j (List.mem_cons_of_mem _ hj))
    simp only [Op.eqItems, Sem.run_bind, h1, h2, h3, Result.andThen_ok, List.all_cons]
    cases q i
    · simp
    · simpa using ih
def rowOf (C : List Int) (i : Nat) : List Int := (C.drop (i * 8)).take 8
theorem extract_row (C : List Int) (i : Nat) : ((C.map vI).toArray).extract (i * 8) (i * 8 + 8) = ((rowOf C i).map vI).toArray := by
  simp [rowOf, List.map_drop, List.map_take, List.drop_take]
theorem infRow : ∃ i, Try.prog.info? 64 = some i ∧ i.size = 8 := by
  have h : (Try.prog.info? 64).map (·.size) = some 8 := by kernel_rfl
  obtain ⟨i, hi, hs⟩ := Option.map_eq_some_iff.1 h
  exact ⟨i, hi, hs⟩
theorem infInt : ∃ i, Try.prog.info? 3 = some i ∧ i.size = 1 := by
  have h : (Try.prog.info? 3).map (·.size) = some 1 := by kernel_rfl
  obtain ⟨i, hi, hs⟩ := Option.map_eq_some_iff.1 h
  exact ⟨i, hi, hs⟩
theorem part_row (C : List Int) (i : Nat) (w : World) : (part 64 (C.map vI).toArray (i * 8)).run Try.prog w = .ok (.agg ((rowOf C i).map vI).toArray) w := by
  obtain ⟨j, hj, hs⟩ := infRow
  have ha : (isAgg 64).run Try.prog w = .ok true w := by
    unfold isAgg
    rw [Sem.run_bind, run_underlying Try.underlying64 w]
    simp
  have hz : (sizeOf 64).run Try.prog w = .ok 8 w := by simp [sizeOf, typeInfo, hj, hs]
  simp only [part, Sem.run_bind, ha, Result.andThen_ok, if_true, hz, Sem.run_pure, extract_row]
theorem part_int (X : List Int) (i : Nat) (hi : i < X.length) (w : World) : (part 3 (X.map vI).toArray (i * 1)).run Try.prog w = .ok (vI (X.getD i 0)) w := by
  have ha : (isAgg 3).run Try.prog w = .ok false w := by
    unfold isAgg
    rw [Sem.run_bind, run_underlying Try.underlying3 w]
    simp
  have hx : ((X.map vI).toArray)[i * 1]? = some (vI (X.getD i 0)) := by
    rw [Nat.mul_one, List.getElem?_toArray, List.getElem?_map, List.getElem?_eq_getElem hi, List.getD_eq_getElem?_getD, List.getElem?_eq_getElem hi]; rfl
  simp only [part, Sem.run_bind, ha, Result.andThen_ok, hx]
  simp
theorem int_eq (d : Nat) (a b : Int) (w : World) : (Op.equalIn (d + 1) 3 (vI a) (vI b)).run Try.prog w = .ok (a == b) w := by
  simp [Op.equalIn, run_underlying Try.underlying3]
theorem row_eq (d : Nat) (X Y : List Int) (hX : X.length = 8) (hY : Y.length = 8) (w : World) :
    (Op.equalIn (d + 2) 64 (.agg (X.map vI).toArray) (.agg (Y.map vI).toArray)).run Try.prog w = .ok ((List.range 8).all fun j => X.getD j 0 == Y.getD j 0) w := by
  obtain ⟨i, hi, hs⟩ := infInt
  have hc : Try.prog.cellsOf 3 = 1 := by simp [Program.cellsOf, hi, hs]
  rw [run_equalIn_array w (d + 1) _ _ Try.underlying64 hi, hc]
  exact eqItems_gen w (d + 1) 3 1 _ _ (fun j => vI (X.getD j 0)) (fun j => vI (Y.getD j 0)) _ _ (fun j hj => ⟨part_int X j (by have := List.mem_range.1 hj; omega) w, part_int Y j (by have := List.mem_range.1 hj; omega) w, int_eq d _ _ w⟩)
theorem rowOf_len (C : List Int) (i : Nat) (hC : C.length = 64) (hi : i < 8) : (rowOf C i).length = 8 := by simp [rowOf, hC]; omega
theorem rowOf_at (C : List Int) (i j : Nat) (hj : j < 8) : (rowOf C i).getD j 0 = C.getD (8 * i + j) 0 := by
  rw [rowOf, List.getD_eq_getElem?_getD, List.getD_eq_getElem?_getD, List.getElem?_take, if_pos hj, List.getElem?_drop, Nat.mul_comm]
theorem all_rows (C D : List Int) (hC : C.length = 64) (hD : D.length = 64) : ((List.range 8).all fun i => (List.range 8).all fun j => (rowOf C i).getD j 0 == (rowOf D i).getD j 0) = decide (C = D) := by
  rw [Bool.eq_iff_iff, decide_eq_true_eq, List.all_eq_true]
  constructor
  · intro h
    apply List.ext_getElem (by omega)
    intro i h1 h2
    have h3 := h (i / 8) (List.mem_range.2 (by omega))
    rw [List.all_eq_true] at h3
    have h4 := h3 (i % 8) (List.mem_range.2 (by omega))
    rw [beq_iff_eq, rowOf_at _ _ _ (by omega), rowOf_at _ _ _ (by omega), show 8 * (i / 8) + i % 8 = i from by omega] at h4
    simpa [List.getD_eq_getElem?_getD, List.getElem?_eq_getElem, h1, h2] using h4
  · rintro rfl i _
    simp
theorem tab_eq (d : Nat) (C D : List Int) (hC : C.length = 64) (hD : D.length = 64) (w : World) :
    (Op.equalIn (d + 3) 65 (.agg (C.map vI).toArray) (.agg (D.map vI).toArray)).run Try.prog w = .ok (decide (C = D)) w := by
  obtain ⟨i, hi, hs⟩ := infRow
  have hc : Try.prog.cellsOf 64 = 8 := by simp [Program.cellsOf, hi, hs]
  rw [run_equalIn_array w (d + 2) _ _ Try.underlying65 hi, hc, ← all_rows C D hC hD]
  refine eqItems_gen w (d + 2) 64 8 _ _ (fun j => .agg ((rowOf C j).map vI).toArray) (fun j => .agg ((rowOf D j).map vI).toArray) _ _ (fun j hj => ⟨part_row C j w, part_row D j w, ?_⟩)
  have hj' := List.mem_range.1 hj
  exact row_eq d _ _ (rowOf_len C j hC hj') (rowOf_len D j hD hj') w
theorem tab_neq (C D : List Int) (hC : C.length = 64) (hD : D.length = 64) (w : World) : (binOp .neq 65 (.agg (C.map vI).toArray) (.agg (D.map vI).toArray)).run Try.prog w = .ok (.bool (!decide (C = D))) w := by
  have h : (Op.equalIn (9997 + 3) 65 (.agg (C.map vI).toArray) (.agg (D.map vI).toArray)).run Try.prog w = .ok (decide (C = D)) w := tab_eq 9997 C D hC hD w
  simp only [binOp, Op.equal, Op.maxDepth, Sem.run_bind, h, Result.andThen_ok, Sem.run_pure]
theorem tab_guard (x y : Operand) (C D : List Int) (w : World) : (eqGuard .neq 65 x y (.agg (C.map vI).toArray) (.agg (D.map vI).toArray)).run Try.prog w = .ok () w := by
  have h : Try.prog.eqGuardType Try.prog.depth 65 = false := by kernel_rfl
  simp [eqGuard, h]
theorem neq_run {a : Act} {o : Oper} {W : World} (x y : Operand) (z : TypeId) (ho : o.op = .binOp .neq 65 x y z) (C D : List Int) (hx : a.eval x = .agg (C.map vI).toArray) (hy : a.eval y = .agg (D.map vI).toArray) (hC : C.length = 64) (hD : D.length = 64) :
    (execOp a.eval o).run Try.prog W = .ok (.value (.bool (!decide (C = D)))) W := by
  unfold execOp
  simp only [ho, hx, hy, Sem.run_bind, tab_guard, tab_neq C D hC hD, Result.andThen_ok, Sem.run_pure]
end Go.Proofs.Ytilanbgciofkjaa.PA

namespace Go.Proofs.Ytilanbgciofkjaa.PA
open Go.RowKit Go.Proofs.YtilanbgciofkjaaW.PrintWords Go.Proofs.YtilanbgciofkjaaW.PrintLast Go.Proofs.YtilanbgciofkjaaW.PrintMore Go.Proofs.Ytilanbgciofkjaa.Pure
attribute [local go_sem] max2_int min2_int max_two min_two max_three min_three max_four min_four
set_option linter.unusedVariables false
set_option linter.unusedSimpArgs false
def zer64 : Array Value := (List.replicate 64 (vI 0)).toArray
theorem infA : (Try.prog.info? 65).map (fun i => (i.zero, i.size)) = some (some (.agg zer64), 64) := by kernel_rfl
theorem sizA : (Try.prog.info? 65).map (·.size) = some 64 := (zero_of_info infA).2
theorem run_allocA {a : Act} {o : Oper} (ho : o.op = .alloc 65) (W : World) : (execOp a.eval o).run Try.prog W = .ok (.value (.pointer (some ⟨W.heap.size, 0, none⟩))) (W.alloc (.cells zer64 65 (0, 0))) := by
  have hz := (zero_of_info infA).1
  unfold execOp
  rw [ho]
  simp [Instr.alloc, Sem.run_bind, hz, newVar, newRow, Value.cells]
theorem run_storeA {a : Act} {o : Oper} {W : World} {g : Nat} {old : Array Value} {p x : Operand} {C : List Int} (ho : o.op = .store 65 p x) (hp : a.eval p = .pointer (some ⟨g, 0, none⟩)) (hx : a.eval x = .agg (C.map vI).toArray) (hC : C.length = 64) (hg : W.heap[g]? = some (.cells old 65 (0, 0))) (hold : old.size = 64) :
    (execOp a.eval o).run Try.prog W = .ok .skip (W.setRow g (C.map vI).toArray) := by
  have h := run_storeVar_row (P := Try.prog) W g 65 65 old (C.map vI).toArray hg (by rw [List.size_toArray, List.length_map, hC]; exact sizA) (by simp [hC, hold]) (Array.all_eq_true_iff_forall_mem.2 (fun v hv => by
    have hv' : v ∈ C.map vI := by simpa using hv
    obtain ⟨c, _, rfl⟩ := List.mem_map.1 hv'
    rfl))
  unfold execOp
  simp only [ho, hp, hx, Instr.storeAt, Instr.sureAddr, Sem.run_bind, Sem.run_pure, Result.andThen_ok, h]
theorem zer64_size : zer64.size = 64 := rfl
theorem grown_setRow (w : World) (g : Nat) (cs : Array Value) : w.grownBy (w.setRow g cs) (some g) :=
  ⟨rfl, rfl, rfl, by rw [setRow_size]; exact Nat.le_refl _, fun i hi hne => setRow_other w g i cs (fun e => hne (by rw [e]))⟩
theorem load_tab {a : Act} {o : Oper} {W : World} {x : Operand} (ho : o.op = .load 65 x) (g off : Nat) (hx : a.eval x = .pointer (some ⟨g, off, none⟩)) (cs : List Value) (hc : W.rangeAt g off cs) (hl : cs.length = 64) : (execOp a.eval o).run Try.prog W = .ok (.value (.agg cs.toArray)) W := by
  unfold execOp
  simp only [ho, hx, run_loadAt_mid W g off 65 cs _ hc Try.underlying65 rfl (by rw [hl]; exact sizA), Sem.run_bind, Result.andThen_ok, Sem.run_pure]
def OldB (w : World) (g : Nat) (C : List Int) : Prop := w.heap[g]? = some (.cells (C.map vI).toArray 65 (0, 0))
theorem OldB.at_ {w : World} {g : Nat} {C : List Int} (h : OldB w g C) (p f : Nat) (hp : p < 8) (hf : f < 8) (hC : C.length = 64) : w.cell? ⟨g, 0 + p * 8 + f, none⟩ = some (.int .i64 (C.getD (8 * p + f) 0)) := by
  rw [blk_cell h, List.getElem?_toArray, show 0 + p * 8 + f = 8 * p + f from by omega, List.getElem?_map, List.getElem?_eq_getElem (by omega), List.getD_eq_getElem?_getD, List.getElem?_eq_getElem (by omega)]
  rfl
/-- what a round leaves -/
def RoundP (n : Nat) (l : List Int) (T : Nat) (s : Value) (C E : List Int) (w : World) (e : Ending) (w' : World) : Prop :=
  ∃ C' E', e = .returned (.bool (!decide (C' = C))) ∧ Grid n (mostF l C) E (8 * n) E' ∧ Grid n (fewF l E') C (8 * n) C' ∧ TabB w' T n s C' E' ∧ w.grownBy w' (some T)
theorem OldB.range {w : World} {g : Nat} {C : List Int} (h : OldB w g C) : w.rangeAt g 0 (C.map vI) := by
  intro j v hv
  rw [blk_cell h, List.getElem?_toArray, Nat.zero_add]
  exact hv
set_option maxHeartbeats 4000000 in
set_option maxRecDepth 100000 in
theorem round_c {n : Nat} {l : List Int} (g : GOk (n : Int) l) (A : Option Addr) (c : Nat) (hc : l.length ≤ c) (T : Nat) (C E : List Int) (iC : InR C) (iE : InR E) (w : World) (hb : TabB w T n (.slice A l.length c) C E) (hr : RowS w T A l) :
    Calls Try.prog 91 #[.pointer (some ⟨T, 0, none⟩)] w fun e w' => RoundP n l T (.slice A l.length c) C E w e w' := by
  have hln : l.length = n := by have := g.len; omega
  have hn8 : n ≤ 8 := by have := g.len8; omega
  have BK := Aside0.mk hb
  have HR := Aside0.mk hr
  have IC := Aside0.mk iC
  have IE := Aside0.mk iE
  have HLN := Aside0.mk hln
  clear hb hr iC iE hln
  go_enter Try.func91, Try.ntmps91
  go_wp2_with (first
   | ((with_reducible refine gate_dst (N := 17) rfl ?_); refine wpList_load_mid rfl 65 (.tmp 16) rfl T 2 rfl (C.map vI) (.array 8 64) ?hc Try.underlying65 rfl ?hi ?_; (case hc => exact BK.out.range); (case hi => rw [List.length_map, IC.out.1]; exact sizA))
   | ((with_reducible refine gate_dst (N := 3) rfl ?_); refine box_event rfl (N := 3) rfl (cs := zer64) (t := 65) (run_allocA rfl w) ?_; intro g2 hg2 w2 hbox hb2)
   | ((with_reducible refine gate_ (.store 65 (.tmp 3) (.tmp 17)) rfl ?_); refine store_event rfl rfl rfl (w1 := w2.setRow g2 (C.map vI).toArray) (run_storeA rfl rfl rfl IC.out.1 hbox zer64_size) ?_; intro w3 hw3;
      have HG := Aside0.mk ((grown_of_below hb2 (some T)).andThen (by rw [hw3]; exact grown_setRow w2 g2 (C.map vI).toArray) (fun j hj => by left; cases hj; omega) : w.grownBy w3 (some T));
      have OB := Aside0.mk (by rw [hw3]; exact setRow_heap w2 g2 _ _ 65 (0, 0) hbox : OldB w3 g2 C);
      have NE := Aside0.mk (by have := BK.out.lt; omega : g2 ≠ T);
      have BK3 := Aside0.mk (by unfold TabB; rw [hw3, setRow_other _ _ _ _ (by have := NE.out; omega)]; exact BK.out.below hb2 : TabB w3 T n (.slice A l.length c) C E);
      have hc0 : w3.cell? ⟨T, 0, none⟩ = some (.int .i64 n) := BK3.out.c0;
      clear hw3 hbox hb2 hg2 BK))
  go_loopg [23] n (fun gg s23 wr => ∃ (p : Nat) (E1 : List Int), p ≤ n ∧ n - p ≤ gg ∧ s23 = .int .i64 p ∧ Aside0 (Grid n (mostF l C) E (8 * p) E1) ∧ Aside0 (TabB wr T n (.slice A l.length c) C E1) ∧ Aside0 (OldB wr g2 C) ∧ Aside0 (w.grownBy wr (some T)))
  case atStart => exact ⟨0, E, Nat.zero_le _, by omega, rfl, ⟨Grid.start IE.out⟩, BK3, OB, HG⟩
  case round =>
    clear OB HG hc0 BK3
    obtain ⟨p, E1, hpm, hgg, rfl, GR, BKr, OBr, HGr⟩ := hrel
    have hcr : wr.cell? ⟨T, 0, none⟩ = some (.int .i64 n) := BKr.out.c0
    by_cases hlt : p < n
    · have hltz : (p : Int) < (n : Int) := by omega
      go_wp2
      obtain ⟨wo, rfl⟩ : ∃ wo : World, wo = wr := ⟨_, rfl⟩
      go_loopg [31] n (fun gg s31 wr => ∃ (f : Nat) (E1 : List Int), f ≤ n ∧ n - f ≤ gg ∧ s31 = .int .i64 f ∧ Aside0 (Grid n (mostF l C) E (8 * p + f) E1) ∧ Aside0 (TabB wr T n (.slice A l.length c) C E1) ∧ Aside0 (OldB wr g2 C) ∧ Aside0 (w.grownBy wr (some T)))
      case atStart => exact ⟨0, E1, Nat.zero_le _, by omega, rfl, GR, BKr, OBr, HGr⟩
      case round =>
        clear GR BKr OBr HGr hcr
        obtain ⟨f, E1, hfm, hgf, rfl, GR, BKr, OBr, HGr⟩ := hrel
        have hcr : wr.cell? ⟨T, 0, none⟩ = some (.int .i64 n) := BKr.out.c0
        by_cases hflt : f < n
        · have hfltz : (f : Int) < (n : Int) := by omega
          by_cases hpf : p = f
          · have hpfb : ((p : Int) == (f : Int)) = true := by rw [beq_iff_eq]; omega
            have HP := Aside0.mk hpf
            clear hpf
            go_wp2
            go_roundg (n - (f + 1))
            case measure => omega
            case rel => exact ⟨f + 1, E1, by omega, by omega, by go_num, ⟨by have := HP.out; subst this; exact Grid.skip (by omega) GR.out⟩, BKr, OBr, HGr⟩
          · have hpfb : ((p : Int) == (f : Int)) = false := by rw [beq_eq_false_iff_ne]; omega
            have HP := Aside0.mk hpf
            clear hpf
            have hc1 : wr.cell? ⟨T, 1, none⟩ = some (.slice A l.length c) := BKr.out.c1
            go_wp2_with (first
             | ((with_reducible refine gate_callee (f := 94) rfl ?_); refine goesL_ (some 42) rfl rfl Try.func94 (by kernel_rfl) rfl #[.agg #[.int .i64 n, .slice A l.length c], .int .i64 f] rfl (by (try simp only [List.map_toArray, List.map_cons, List.map_nil]); first | done | rfl) ?_; (with_reducible refine (stay_c g f (by have := HLN.out; omega) A c hc _ (HR.out.now HGr.out)).mono ?_); rintro e w4 ⟨rfl, hb⟩; refine ⟨_, rfl, ?_⟩;
                have n0 := Aside0.mk (BKr.out.below hb); have n1 := Aside0.mk (blk_below OBr.out hb : OldB w4 g2 C); have n2 := Aside0.mk (grown_then HGr.out hb); clear BKr OBr HGr hb hcr hc1; have BKr := n0; have OBr := n1; have HGr := n2; clear n0 n1 n2)
             | ((with_reducible refine gate_callee (f := 86) rfl ?_); refine goesL_ (some 43) rfl rfl Try.func86 (by kernel_rfl) rfl #[.int .i64 ((stayN l f : Nat) : Int)] rfl (by (try simp only [List.map_toArray, List.map_cons, List.map_nil]); first | done | rfl) ?_; (with_reducible refine (list_c g f (by have := HLN.out; omega) _).mono ?_); rintro e w5 ⟨A5, c5, rfl, ho, hb⟩; refine ⟨_, rfl, ?_⟩;
                have n0 := Aside0.mk (BKr.out.below hb); have n1 := Aside0.mk (blk_below OBr.out hb : OldB w5 g2 C); have n2 := Aside0.mk (grown_then HGr.out hb); have HO := Aside0.mk ho; clear BKr OBr HGr hb ho; have BKr := n0; have OBr := n1; have HGr := n2; clear n0 n1 n2))
            have hin0 := (mostF_in g IC.out p f (by have := HLN.out; omega) (by have := HLN.out; omega))
            have HIN := Aside0.mk hin0
            clear hin0
            have HLL := Aside0.mk (stayL_len l f)
            go_loopg [6, 45] (stayL l f).length (fun gg s6 s45 wr => ∃ (k : Nat), k ≤ (stayL l f).length ∧ (stayL l f).length - k ≤ gg ∧ s45 = .int .i64 k ∧ s6 = .int .i64 (((stayL l f).take k).foldl (mostS C p) 0) ∧ wr = w5)
            case atStart => exact ⟨0, Nat.zero_le _, by omega, rfl, rfl, rfl⟩
            case round =>
              obtain ⟨k, hk, hgk, rfl, rfl, rfl⟩ := hrel
              by_cases hklt : k < (stayL l f).length
              · have hkz : (k : Int) < ((stayL l f).length : Int) := by omega
                obtain ⟨ad, e1, hcell0⟩ := Kd.at_int (Kd.R_reads' HO.out).2.2 (k : Int) (by omega) hkz
                subst e1
                have hcell : wr.cell? (ad.add k) = some (.int .i64 ((stayL l f).getD k 0)) := hcell0
                clear hcell0
                obtain ⟨u, hu, hul, _⟩ := stayL_mem g f (by have := HLN.out; omega) _ (getD_mem _ k hklt)
                rw [hu] at hcell
                have hu8 : u < 8 := by have := g.len8; omega
                have hp8 : p < 8 := by omega
                have hk8 : k < 8 := by have := HLL.out; omega
                obtain ⟨cv, hcve⟩ : ∃ cv, cv = C.getD (8 * p + u) 0 := ⟨_, rfl⟩
                have hcv : wr.cell? ⟨g2, 0 + p * 8 + u, none⟩ = some (.int .i64 cv) := by rw [hcve]; exact OldB.at_ OBr.out p u hp8 hu8 IC.out.1
                have HST : Aside0 (∀ m, mostS C p m ((stayL l f).getD k 0) = if m < cv then cv else m) := ⟨fun m => by rw [hu, hcve]; rfl⟩
                clear hu hcve
                go_wp2_with (first
                 | ((with_reducible refine gate_dst (N := 52) rfl ?_); refine Kd.event_run rfl (row_run _ _ rfl g2 0 p rfl rfl hp8) ?_)
                 | ((with_reducible refine gate_dst (N := 53) rfl ?_); refine Kd.event_run rfl (col_run _ _ rfl g2 (0 + p * 8) u rfl rfl hu8) ?_)
                 | ((with_reducible refine gate_dst (N := 54) rfl ?_); refine Kd.event_run rfl (load_run _ rfl g2 (0 + p * 8 + u) _ rfl hcv) ?_; clear hcv))
                all_goals
                  go_roundg ((stayL l f).length - (k + 1))
                  case measure => omega
                  case rel => exact ⟨k + 1, by omega, by omega, by go_num, by rw [foldl_take_succ _ _ _ _ 0 hklt, HST.out]; first | rw [if_pos (by assumption)] | rw [if_neg (by omega)], rfl⟩
              · obtain rfl : k = (stayL l f).length := by omega
                rw [List.take_length]
                have hp8 : p < 8 := by omega
                have hf8 : f < 8 := by omega
                have HCE := Aside0.mk (BKr.out.cE p f hp8 hf8 IC.out.1 GR.out.1.1)
                have HFZ := Aside0.mk (BKr.out.frozen (66 + p * 8 + f))
                go_wp2_with (first
                 | ((with_reducible refine gate_dst (N := 63) rfl ?_); refine Kd.event_run rfl (row_run _ _ rfl T 66 p rfl rfl hp8) ?_)
                 | ((with_reducible refine gate_dst (N := 64) rfl ?_); refine Kd.event_run rfl (col_run _ _ rfl T (66 + p * 8) f rfl rfl hf8) ?_)
                 | ((with_reducible refine gate_ (.store 3 (.tmp 64) (.tmp 60)) rfl ?_); refine store_event rfl rfl rfl (w1 := wr.setCell ⟨T, 66 + p * 8 + f, none⟩ (.int .i64 (mostF l C p f))) (put_run _ _ rfl T (66 + p * 8 + f) _ _ rfl rfl HCE.out HFZ.out) ?_; intro w6 hw6;
                     have BK6 := Aside0.mk (by rw [hw6]; exact BKr.out.setE p f hp8 hf8 IC.out.1 _ : TabB w6 T n (.slice A l.length c) C (E1.set (8 * p + f) (mostF l C p f)));
                     have OB6 := Aside0.mk (by rw [hw6]; exact blk_far OBr.out NE.out _ : OldB w6 g2 C);
                     have HG6 := Aside0.mk (by rw [hw6]; exact grown_set_then HGr.out _ : w.grownBy w6 (some T)); clear hw6 BKr OBr HGr))
                go_roundg (n - (f + 1))
                case measure => omega
                case rel => exact ⟨f + 1, _, by omega, by omega, by go_num, ⟨Grid.put hp8 hflt hn8 HP.out HIN.out GR.out⟩, BK6, OB6, HG6⟩
        · obtain rfl : f = n := by omega
          go_wp2
          go_roundg (f - (p + 1))
          case measure => omega
          case rel => exact ⟨p + 1, E1, by omega, by omega, by go_num, ⟨Grid.row hn8 GR.out⟩, BKr, OBr, HGr⟩
    · obtain rfl : p = n := by omega
      go_wp2
      obtain ⟨wo, rfl⟩ : ∃ wo : World, wo = wr := ⟨_, rfl⟩
      have IE1 := Aside0.mk GR.out.1
      have GE := Aside0.mk GR.out
      clear GR
      go_loopg [72] p (fun gg s72 wr => ∃ (q : Nat) (C1 : List Int), q ≤ p ∧ p - q ≤ gg ∧ s72 = .int .i64 q ∧ Aside0 (Grid p (fewF l E1) C (8 * q) C1) ∧ Aside0 (TabB wr T p (.slice A l.length c) C1 E1) ∧ Aside0 (OldB wr g2 C) ∧ Aside0 (w.grownBy wr (some T)))
      case atStart => exact ⟨0, C, Nat.zero_le _, by omega, rfl, ⟨Grid.start IC.out⟩, BKr, OBr, HGr⟩
      case round =>
        clear BKr OBr HGr hcr
        obtain ⟨q, C1, hqm, hgq, rfl, GR, BKr, OBr, HGr⟩ := hrel
        have hcr : wr.cell? ⟨T, 0, none⟩ = some (.int .i64 p) := BKr.out.c0
        by_cases hlt2 : q < p
        · have hltz2 : (q : Int) < (p : Int) := by omega
          go_wp2
          obtain ⟨wo2, rfl⟩ : ∃ wo2 : World, wo2 = wr := ⟨_, rfl⟩
          go_loopg [80] p (fun gg s80 wr => ∃ (f : Nat) (C1 : List Int), f ≤ p ∧ p - f ≤ gg ∧ s80 = .int .i64 f ∧ Aside0 (Grid p (fewF l E1) C (8 * q + f) C1) ∧ Aside0 (TabB wr T p (.slice A l.length c) C1 E1) ∧ Aside0 (OldB wr g2 C) ∧ Aside0 (w.grownBy wr (some T)))
          case atStart => exact ⟨0, C1, Nat.zero_le _, by omega, rfl, GR, BKr, OBr, HGr⟩
          case round =>
            clear GR BKr OBr HGr hcr
            obtain ⟨f, C1, hfm, hgf, rfl, GR, BKr, OBr, HGr⟩ := hrel
            have hcr : wr.cell? ⟨T, 0, none⟩ = some (.int .i64 p) := BKr.out.c0
            by_cases hflt : f < p
            · have hfltz : (f : Int) < (p : Int) := by omega
              by_cases hpf : q = f
              · have hpfb : ((q : Int) == (f : Int)) = true := by rw [beq_iff_eq]; omega
                have HP := Aside0.mk hpf
                clear hpf
                go_wp2
                go_roundg (p - (f + 1))
                case measure => omega
                case rel => exact ⟨f + 1, C1, by omega, by omega, by go_num, ⟨by have := HP.out; subst this; exact Grid.skip (by omega) GR.out⟩, BKr, OBr, HGr⟩
              · have hpfb : ((q : Int) == (f : Int)) = false := by rw [beq_eq_false_iff_ne]; omega
                have HP := Aside0.mk hpf
                clear hpf
                have hc1 : wr.cell? ⟨T, 1, none⟩ = some (.slice A l.length c) := BKr.out.c1
                go_wp2_with (first
                 | ((with_reducible refine gate_callee (f := 94) rfl ?_); refine goesL_ (some 91) rfl rfl Try.func94 (by kernel_rfl) rfl #[.agg #[.int .i64 p, .slice A l.length c], .int .i64 q] rfl (by (try simp only [List.map_toArray, List.map_cons, List.map_nil]); first | done | rfl) ?_; (with_reducible refine (stay_c g q (by have := HLN.out; omega) A c hc _ (HR.out.now HGr.out)).mono ?_); rintro e w4 ⟨rfl, hb⟩; refine ⟨_, rfl, ?_⟩;
                    have n0 := Aside0.mk (BKr.out.below hb); have n1 := Aside0.mk (blk_below OBr.out hb : OldB w4 g2 C); have n2 := Aside0.mk (grown_then HGr.out hb); clear BKr OBr HGr hb hcr hc1; have BKr := n0; have OBr := n1; have HGr := n2; clear n0 n1 n2)
                 | ((with_reducible refine gate_callee (f := 86) rfl ?_); refine goesL_ (some 92) rfl rfl Try.func86 (by kernel_rfl) rfl #[.int .i64 ((stayN l q : Nat) : Int)] rfl (by (try simp only [List.map_toArray, List.map_cons, List.map_nil]); first | done | rfl) ?_; (with_reducible refine (list_c g q (by have := HLN.out; omega) _).mono ?_); rintro e w5 ⟨A5, c5, rfl, ho, hb⟩; refine ⟨_, rfl, ?_⟩;
                    have n0 := Aside0.mk (BKr.out.below hb); have n1 := Aside0.mk (blk_below OBr.out hb : OldB w5 g2 C); have n2 := Aside0.mk (grown_then HGr.out hb); have HO := Aside0.mk ho; clear BKr OBr HGr hb ho; have BKr := n0; have OBr := n1; have HGr := n2; clear n0 n1 n2))
                have hin0 := (fewF_in g IE1.out q f (by have := HLN.out; omega) (by have := HLN.out; omega))
                have HIN := Aside0.mk hin0
                clear hin0
                have HLL := Aside0.mk (stayL_len l q)
                have hf8 : f < 8 := by omega
                have hq8 : q < 8 := by omega
                go_loopg [11, 94] (stayL l q).length (fun gg s11 s94 wr => ∃ (k : Nat), k ≤ (stayL l q).length ∧ (stayL l q).length - k ≤ gg ∧ s94 = .int .i64 k ∧ s11 = .int .i64 (((stayL l q).take k).foldl (fewS E1 f) 1000) ∧ wr = w5)
                case atStart => exact ⟨0, Nat.zero_le _, by omega, rfl, rfl, rfl⟩
                case round =>
                  obtain ⟨k, hk, hgk, rfl, rfl, rfl⟩ := hrel
                  by_cases hklt : k < (stayL l q).length
                  · have hkz : (k : Int) < ((stayL l q).length : Int) := by omega
                    obtain ⟨ad, e1, hcell0⟩ := Kd.at_int (Kd.R_reads' HO.out).2.2 (k : Int) (by omega) hkz
                    subst e1
                    have hcell : wr.cell? (ad.add k) = some (.int .i64 ((stayL l q).getD k 0)) := hcell0
                    clear hcell0
                    obtain ⟨u, hu, hul, _⟩ := stayL_mem g q (by have := HLN.out; omega) _ (getD_mem _ k hklt)
                    rw [hu] at hcell
                    have hu8 : u < 8 := by have := g.len8; omega
                    have hk8 : k < 8 := by have := HLL.out; omega
                    obtain ⟨cv, hcve⟩ : ∃ cv, cv = E1.getD (8 * u + f) 0 := ⟨_, rfl⟩
                    have hcv : wr.cell? ⟨T, 66 + u * 8 + f, none⟩ = some (.int .i64 cv) := by rw [hcve]; exact BKr.out.cE u f hu8 hf8 GR.out.1.1 IE1.out.1
                    have hcv0 : 0 ≤ cv ∧ cv ≤ 1000 := by rw [hcve]; exact IE1.out.2 _ (by omega)
                    obtain ⟨hcva, hcvb⟩ := hcv0
                    have HST : Aside0 (∀ m, fewS E1 f m ((stayL l q).getD k 0) = if 1 + cv < m then 1 + cv else m) := ⟨fun m => by rw [hu, hcve]; rfl⟩
                    clear hu hcve
                    go_wp2_with (first
                     | ((with_reducible refine gate_dst (N := 104) rfl ?_); refine Kd.event_run rfl (row_run _ _ rfl T 66 u rfl rfl hu8) ?_)
                     | ((with_reducible refine gate_dst (N := 105) rfl ?_); refine Kd.event_run rfl (col_run _ _ rfl T (66 + u * 8) f rfl rfl hf8) ?_)
                     | ((with_reducible refine gate_dst (N := 106) rfl ?_); refine Kd.event_run rfl (load_run _ rfl T (66 + u * 8 + f) _ rfl hcv) ?_; clear hcv))
                    all_goals
                      go_roundg ((stayL l q).length - (k + 1))
                      case measure => omega
                      case rel => exact ⟨k + 1, by omega, by omega, by go_num, by rw [foldl_take_succ _ _ _ _ 0 hklt, HST.out]; first | rw [if_pos (by omega)] | rw [if_neg (by omega)], rfl⟩
                  · obtain rfl : k = (stayL l q).length := by omega
                    rw [List.take_length]
                    have HCE := Aside0.mk (BKr.out.cC q f hq8 hf8 GR.out.1.1)
                    have HFZ := Aside0.mk (BKr.out.frozen (2 + q * 8 + f))
                    go_wp2_with (first
                     | ((with_reducible refine gate_dst (N := 116) rfl ?_); refine Kd.event_run rfl (row_run _ _ rfl T 2 q rfl rfl hq8) ?_)
                     | ((with_reducible refine gate_dst (N := 117) rfl ?_); refine Kd.event_run rfl (col_run _ _ rfl T (2 + q * 8) f rfl rfl hf8) ?_)
                     | ((with_reducible refine gate_ (.store 3 (.tmp 117) (.tmp 113)) rfl ?_); refine store_event rfl rfl rfl (w1 := wr.setCell ⟨T, 2 + q * 8 + f, none⟩ (.int .i64 (fewF l E1 q f))) (put_run _ _ rfl T (2 + q * 8 + f) _ _ rfl rfl HCE.out HFZ.out) ?_; intro w6 hw6;
                         have BK6 := Aside0.mk (by rw [hw6]; exact BKr.out.setC q f hq8 hf8 GR.out.1.1 _ : TabB w6 T p (.slice A l.length c) (C1.set (8 * q + f) (fewF l E1 q f)) E1);
                         have OB6 := Aside0.mk (by rw [hw6]; exact blk_far OBr.out NE.out _ : OldB w6 g2 C);
                         have HG6 := Aside0.mk (by rw [hw6]; exact grown_set_then HGr.out _ : w.grownBy w6 (some T)); clear hw6 BKr OBr HGr))
                    go_roundg (p - (f + 1))
                    case measure => omega
                    case rel => exact ⟨f + 1, _, by omega, by omega, by go_num, ⟨Grid.put hq8 hflt hn8 HP.out HIN.out GR.out⟩, BK6, OB6, HG6⟩
            · obtain rfl : f = p := by omega
              go_wp2
              go_roundg (f - (q + 1))
              case measure => omega
              case rel => exact ⟨q + 1, C1, by omega, by omega, by go_num, ⟨Grid.row hn8 GR.out⟩, BKr, OBr, HGr⟩
        · obtain rfl : q = p := by omega
          go_wp2
          have hS : TabB wr.drew T q (.slice A l.length c) C1 E1 ∧ OldB wr.drew g2 C := ⟨BKr.out, OBr.out⟩
          refine start_ (n := 7) (S := fun w' => TabB w' T q (.slice A l.length c) C1 E1 ∧ OldB w' g2 C) (ds := []) #[false, false, false, false, false, false, false] (by kernel_rfl) rfl rfl hS (fun hHeld => ?_)
          refine pure_ (i := 0) (N := some 120) (v := ?_) (a' := ?_) #[true, false, false, false, false, false, false] rfl rfl (by kernel_rfl) (fun _ _ _ h => h) (Or.inl ⟨by rfl, ?_⟩) ?_ ?_
          rotate_left
          · intro w'
            go_simp; with_reducible rfl
          rotate_left
          · show Act.put _ _ _ = _
            simp only [Act.put, List.setIfInBounds_toArray, List.set_cons_zero, List.set_cons_succ, i64_w, i32_w]
            rfl
          refine pure_ (i := 1) (N := some 121) (v := ?_) (a' := ?_) #[true, true, false, false, false, false, false] rfl rfl (by kernel_rfl) (fun _ _ _ h => h) (Or.inl ⟨by rfl, ?_⟩) ?_ ?_
          rotate_left
          · intro w'
            go_simp; with_reducible rfl
          rotate_left
          · show Act.put _ _ _ = _
            simp only [Act.put, List.setIfInBounds_toArray, List.set_cons_zero, List.set_cons_succ, i64_w, i32_w]
            rfl
          refine pure_ (i := 2) (N := some 122) (v := ?_) (a' := ?_) #[true, true, true, false, false, false, false] rfl rfl (by kernel_rfl) (fun _ _ _ h => h) (Or.inl ⟨by rfl, ?_⟩) ?_ ?_
          rotate_left
          · intro w'
            go_simp; with_reducible rfl
          rotate_left
          · show Act.put _ _ _ = _
            simp only [Act.put, List.setIfInBounds_toArray, List.set_cons_zero, List.set_cons_succ, i64_w, i32_w]
            rfl
          refine take_ (i := 3) (N := some 123) (v := ?_) (a' := ?_) #[true, true, true, true, false, false, false] rfl rfl (by kernel_rfl) (fun _ _ _ h => h) (Or.inl ⟨by rfl, ?_⟩) hHeld ?_ ?_
          rotate_left
          · rintro w' ⟨h1, h2⟩; refine (load_tab (by rfl) T 2 (by rfl) (C1.map vI) h1.range (by rw [List.length_map, GR.out.1.1])).trans ?_; with_reducible rfl
          rotate_left
          · show Act.put _ _ _ = _
            simp only [Act.put, List.setIfInBounds_toArray, List.set_cons_zero, List.set_cons_succ, i64_w, i32_w]
            rfl
          refine take_ (i := 4) (N := some 124) (v := ?_) (a' := ?_) #[true, true, true, true, true, false, false] rfl rfl (by kernel_rfl) (fun _ _ _ h => h) (Or.inl ⟨by rfl, ?_⟩) hHeld ?_ ?_
          rotate_left
          · rintro w' ⟨h1, h2⟩; refine (load_tab (by rfl) g2 0 (by rfl) (C.map vI) h2.range (by rw [List.length_map, IC.out.1])).trans ?_; with_reducible rfl
          rotate_left
          · show Act.put _ _ _ = _
            simp only [Act.put, List.setIfInBounds_toArray, List.set_cons_zero, List.set_cons_succ, i64_w, i32_w]
            rfl
          refine pure_ (i := 5) (N := some 125) (v := ?_) (a' := ?_) #[true, true, true, true, true, true, false] rfl rfl (by kernel_rfl) (fun _ _ _ h => h) (Or.inl ⟨by rfl, ?_⟩) ?_ ?_
          rotate_left
          · intro w'
            refine (neq_run _ _ _ (by rfl) C1 C (by rfl) (by rfl) GR.out.1.1 IC.out.1).trans ?_; with_reducible rfl
          rotate_left
          · show Act.put _ _ _ = _
            simp only [Act.put, List.setIfInBounds_toArray, List.set_cons_zero, List.set_cons_succ, i64_w, i32_w]
            rfl
          refine pure_ (i := 6) (N := some 2) (v := ?_) (a' := ?_) #[true, true, true, true, true, true, true] rfl rfl (by kernel_rfl) (fun _ _ _ h => h) (Or.inl ⟨by rfl, ?_⟩) ?_ ?_
          rotate_left
          · intro w'
            go_simp; with_reducible rfl
          rotate_left
          · show Act.put _ _ _ = _
            simp only [Act.put, List.setIfInBounds_toArray, List.set_cons_zero, List.set_cons_succ, i64_w, i32_w]
            rfl
          refine done_ (by kernel_rfl) ?_
          go_wp2
          go_ret
          exact ⟨C1, E1, rfl, GE.out, GR.out, BKr.out, grown_draw HGr.out 1⟩
end Go.Proofs.Ytilanbgciofkjaa.PA

namespace Go.Proofs.Ytilanbgciofkjaa.PA
open Go.RowKit Go.Proofs.YtilanbgciofkjaaW.PrintWords Go.Proofs.YtilanbgciofkjaaW.PrintLast Go.Proofs.YtilanbgciofkjaaW.PrintMore Go.Proofs.Ytilanbgciofkjaa.Pure
attribute [local go_sem] max2_int min2_int max_two min_two max_three min_three max_four min_four
set_option linter.unusedVariables false
set_option linter.unusedSimpArgs false
def zeros : List Int := List.replicate 64 0
theorem zeros_at (i : Nat) : zeros.getD i 0 = 0 := by
  unfold zeros
  rw [List.getD_eq_getElem?_getD, List.getElem?_replicate]
  split <;> rfl
theorem zeros_in : InR zeros := ⟨by simp only [zeros, List.length_replicate], fun i hi => by rw [zeros_at]; decide⟩
theorem zeros_diag : Diag zeros := fun p hp => zeros_at _
theorem built67 (n : Int) (s : Value) : Try.prog.built 67 [(0, .agg #[.int .i64 n, s])] = some (tabA n s zeros zeros) := by kernel_rfl
theorem build_run {a : Act} {o : Oper} {W : World} (x : Operand) (ho : o.op = .build 67 #[(0, x)]) (n : Int) (s : Value) (hx : a.eval x = .agg #[.int .i64 n, s]) : (execOp a.eval o).run Try.prog W = .ok (.value (.agg (tabA n s zeros zeros))) W := by
  have h := run_build (P := Try.prog) W 67 #[(0, .agg #[.int .i64 n, s])] (tabA n s zeros zeros) (built67 n s)
  unfold execOp
  simp only [ho, List.map_toArray, List.map_cons, List.map_nil, hx, Sem.run_bind, h, Result.andThen_ok, Sem.run_pure]
theorem boxT_run {a : Act} {o : Oper} {W : World} (x : Operand) (ho : o.op = .box 67 x) (cs : Array Value) (hx : a.eval x = .agg cs) : (execOp a.eval o).run Try.prog W = .ok (.value (.pointer (some ⟨W.heap.size, 0, none⟩))) (W.alloc (.cells cs 67 (0, 0))) := by
  unfold execOp
  simp [ho, hx, Instr.box, newVar, newRow, Value.cells]
theorem put_step {P : Program} {ops : Array Oper} {o : Oper} {a : Act} {Q : Exit → Act → World → Prop} {Kc : Act → World → Prop} {W w1 : World} (hw : Region.wanted o (yielded ops a.tmps) = true) (hN : o.dst = none) (hrun : (execOp a.eval o).run P W = .ok .skip w1) (h : Kc a w1) :
    if Region.wanted o (yielded ops a.tmps) = true then Oper.wp P o a W Kc Q else Kc (a.put none undef) W := by
  rw [if_pos hw]
  unfold Oper.wp
  rw [hrun]
  show Kc (a.put o.dst undef) w1
  rw [hN]
  exact h
theorem C_blk {w : World} {A : Option Addr} {n : Nat} {xs : List Int} (h : Kd.C (Kd.int .i64) w A n xs) (ad : Addr) (e : A = some ad) (hn : 0 < n) : ad.block < w.heap.size := by
  obtain ⟨ad', e', hc⟩ := Kd.at_int h 0 (by decide) (by omega)
  rw [e] at e'
  cases e'
  have := World.block_lt_of_cell? w _ hc
  rwa [add_block] at this
/-- what the call leaves: a table in memory of its own -/
def TableP (n : Nat) (l : List Int) (s : Value) (w : World) (e : Ending) (w' : World) : Prop :=
  ∃ T C E, e = .returned (.pointer (some ⟨T, 0, none⟩)) ∧ w.heap.size ≤ T ∧ TabB w' T n s C E ∧ Below w.heap.size w w' ∧ TabFin n l C E
set_option maxHeartbeats 4000000 in
set_option maxRecDepth 100000 in
theorem tableOf_c {n : Nat} {l : List Int} (g : GOk (n : Int) l) (A : Option Addr) (c : Nat) (hc : l.length ≤ c) (w : World) (hr : Kd.C (Kd.int .i64) w A l.length l) :
    Calls Try.prog 64 #[.agg #[.int .i64 n, .slice A l.length c]] w fun e w' => TableP n l (.slice A l.length c) w e w' := by
  have HLN := Aside0.mk (nlen g)
  have hn8 : n ≤ 8 := by have := g.len8; have := HLN.out; omega
  have HR := Aside0.mk hr
  clear hr
  go_enter Try.func64, Try.ntmps64
  go_wp2_with (first
   | ((with_reducible refine gate_dst (N := 1) rfl ?_); refine box_event rfl (N := 1) rfl (cs := #[.int .i64 n, .slice A l.length c]) (t := 27) (by first | (go_simp; done) | (go_simp; rfl)) ?_; intro g1 hg1 w1 hbox hb1;
       have BG := Aside0.mk hbox; have HG1 := Aside0.mk hg1; have HB := Aside0.mk hb1; have hz0 : w1.cell? ⟨g1, 0, none⟩ = some (.int .i64 n) := (blk_cell BG.out 0).trans rfl; have hz1 : w1.cell? ⟨g1, 1, none⟩ = some (.slice A l.length c) := (blk_cell BG.out 1).trans rfl; clear hbox hg1 hb1)
   | ((with_reducible refine gate_dst (N := 7) rfl ?_); refine Kd.event_run rfl (build_run _ rfl n (.slice A l.length c) rfl) ?_)
   | ((with_reducible refine gate_dst (N := 8) rfl ?_); refine box_event rfl (N := 8) rfl (cs := tabA n (.slice A l.length c) zeros zeros) (t := 67) (boxT_run _ rfl _ rfl) ?_; intro T hT w2 hbox hb2;
       have BK := Aside0.mk (show TabB w2 T n (.slice A l.length c) zeros zeros from hbox);
       have HT := Aside0.mk (by have := HB.out.size; omega : w.heap.size ≤ T);
       have NE := Aside0.mk (by have := blk_lt BG.out; omega : g1 ≠ T);
       have HGr := Aside0.mk (⟨hb2.os.trans HB.out.os, hb2.tape.trans HB.out.tape, hb2.output.trans HB.out.output, Nat.le_trans HB.out.size hb2.size, fun i hi => (hb2.block i (Nat.lt_of_lt_of_le hi HB.out.size)).trans (HB.out.block i hi)⟩ : Below w.heap.size w w2);
       have BG2 := Aside0.mk (blk_below BG.out hb2); clear BG; have BG := BG2; clear BG2;
       have hz0 : w2.cell? ⟨g1, 0, none⟩ = some (.int .i64 n) := (blk_cell BG.out 0).trans rfl; clear hbox hT hb2 HB HG1))
  go_loopg [11] n (fun gg s11 wr => ∃ (p : Nat) (X : List Int), p ≤ n ∧ n - p ≤ gg ∧ s11 = .int .i64 p ∧ Aside0 (Grid n (fun _ _ => 1000) zeros (8 * p) X) ∧ Aside0 (TabB wr T n (.slice A l.length c) X X) ∧ Aside0 (wr.heap[g1]? = some (.cells #[.int .i64 n, .slice A l.length c] 27 (0, 0))) ∧ Aside0 (Below w.heap.size w wr))
  case atStart => exact ⟨0, zeros, Nat.zero_le _, by omega, rfl, ⟨Grid.start zeros_in⟩, BK, BG, HGr⟩
  case round =>
    clear BK BG HGr hz0 hz1
    obtain ⟨p, X, hpm, hgg, rfl, GR, BK, BG, HB⟩ := hrel
    have hz0 : wr.cell? ⟨g1, 0, none⟩ = some (.int .i64 n) := (blk_cell BG.out 0).trans rfl
    by_cases hlt : p < n
    · have hltz : (p : Int) < (n : Int) := by omega
      go_wp2
      obtain ⟨wo, rfl⟩ : ∃ wo : World, wo = wr := ⟨_, rfl⟩
      go_loopg [16] n (fun gg s16 wr => ∃ (f : Nat) (X : List Int), f ≤ n ∧ n - f ≤ gg ∧ s16 = .int .i64 f ∧ Aside0 (Grid n (fun _ _ => 1000) zeros (8 * p + f) X) ∧ Aside0 (TabB wr T n (.slice A l.length c) X X) ∧ Aside0 (wr.heap[g1]? = some (.cells #[.int .i64 n, .slice A l.length c] 27 (0, 0))) ∧ Aside0 (Below w.heap.size w wr))
      case atStart => exact ⟨0, X, Nat.zero_le _, by omega, rfl, GR, BK, BG, HB⟩
      case round =>
        clear GR BK BG HB hz0
        obtain ⟨f, X, hfm, hgf, rfl, GR, BK, BG, HB⟩ := hrel
        have hz0 : wr.cell? ⟨g1, 0, none⟩ = some (.int .i64 n) := (blk_cell BG.out 0).trans rfl
        by_cases hflt : f < n
        · have hfltz : (f : Int) < (n : Int) := by omega
          by_cases hpf : p = f
          · have hpfb : ((p : Int) != (f : Int)) = false := by rw [bne_eq_false_iff_eq]; omega
            have HP := Aside0.mk hpf
            clear hpf
            go_wp2
            go_roundg (n - (f + 1))
            case measure => omega
            case rel => exact ⟨f + 1, X, by omega, by omega, by go_num, ⟨by have := HP.out; subst this; exact Grid.skip (by omega) GR.out⟩, BK, BG, HB⟩
          · have hpfb : ((p : Int) != (f : Int)) = true := by rw [bne_iff_ne]; omega
            have HP := Aside0.mk hpf
            clear hpf
            have hp8 : p < 8 := by omega
            have hf8 : f < 8 := by omega
            go_wp2
            refine start_ (n := 16) (S := fun _ => True) (ds := []) #[false, false, false, false, false, false, false, false, false, false, false, false, false, false, false, false] (by kernel_rfl) rfl rfl trivial (fun hHeld => ?_)
            refine pure_ (i := 0) (N := some 22) (v := ?_) (a' := ?_) #[true, false, false, false, false, false, false, false, false, false, false, false, false, false, false, false] rfl rfl (by kernel_rfl) (fun _ _ _ h => h) (Or.inl ⟨by rfl, ?_⟩) ?_ ?_
            rotate_left
            · intro w'
              go_simp; with_reducible rfl
            rotate_left
            · show Act.put _ _ _ = _
              simp only [Act.put, List.setIfInBounds_toArray, List.set_cons_zero, List.set_cons_succ, i64_w, i32_w]
              rfl
            refine pure_ (i := 1) (N := some 23) (v := ?_) (a' := ?_) #[true, true, false, false, false, false, false, false, false, false, false, false, false, false, false, false] rfl rfl (by kernel_rfl) (fun _ _ _ h => h) (Or.inl ⟨by rfl, ?_⟩) ?_ ?_
            rotate_left
            · intro w'
              go_simp; with_reducible rfl
            rotate_left
            · show Act.put _ _ _ = _
              simp only [Act.put, List.setIfInBounds_toArray, List.set_cons_zero, List.set_cons_succ, i64_w, i32_w]
              rfl
            refine pure_ (i := 2) (N := some 24) (v := ?_) (a' := ?_) #[true, true, true, false, false, false, false, false, false, false, false, false, false, false, false, false] rfl rfl (by kernel_rfl) (fun _ _ _ h => h) (Or.inl ⟨by rfl, ?_⟩) ?_ ?_
            rotate_left
            · intro w'
              go_simp; with_reducible rfl
            rotate_left
            · show Act.put _ _ _ = _
              simp only [Act.put, List.setIfInBounds_toArray, List.set_cons_zero, List.set_cons_succ, i64_w, i32_w]
              rfl
            refine pure_ (i := 3) (N := some 25) (v := ?_) (a' := ?_) #[true, true, true, true, false, false, false, false, false, false, false, false, false, false, false, false] rfl rfl (by kernel_rfl) (fun _ _ _ h => h) (Or.inl ⟨by rfl, ?_⟩) ?_ ?_
            rotate_left
            · intro w'
              go_simp; with_reducible rfl
            rotate_left
            · show Act.put _ _ _ = _
              simp only [Act.put, List.setIfInBounds_toArray, List.set_cons_zero, List.set_cons_succ, i64_w, i32_w]
              rfl
            refine pure_ (i := 4) (N := some 26) (v := ?_) (a' := ?_) #[true, true, true, true, true, false, false, false, false, false, false, false, false, false, false, false] rfl rfl (by kernel_rfl) (fun _ _ _ h => h) (Or.inl ⟨by rfl, ?_⟩) ?_ ?_
            rotate_left
            · intro w'
              go_simp; with_reducible rfl
            rotate_left
            · show Act.put _ _ _ = _
              simp only [Act.put, List.setIfInBounds_toArray, List.set_cons_zero, List.set_cons_succ, i64_w, i32_w]
              rfl
            refine pure_ (i := 5) (N := some 27) (v := ?_) (a' := ?_) #[true, true, true, true, true, true, false, false, false, false, false, false, false, false, false, false] rfl rfl (by kernel_rfl) (fun _ _ _ h => h) (Or.inl ⟨by rfl, ?_⟩) ?_ ?_
            rotate_left
            · intro w'
              go_simp; with_reducible rfl
            rotate_left
            · show Act.put _ _ _ = _
              simp only [Act.put, List.setIfInBounds_toArray, List.set_cons_zero, List.set_cons_succ, i64_w, i32_w]
              rfl
            refine pure_ (i := 6) (N := some 28) (v := ?_) (a' := ?_) #[true, true, true, true, true, true, true, false, false, false, false, false, false, false, false, false] rfl rfl (by kernel_rfl) (fun _ _ _ h => h) (Or.inl ⟨by rfl, ?_⟩) ?_ ?_
            rotate_left
            · intro w'
              go_simp; with_reducible rfl
            rotate_left
            · show Act.put _ _ _ = _
              simp only [Act.put, List.setIfInBounds_toArray, List.set_cons_zero, List.set_cons_succ, i64_w, i32_w]
              rfl
            refine pure_ (i := 7) (N := some 29) (v := ?_) (a' := ?_) #[true, true, true, true, true, true, true, true, false, false, false, false, false, false, false, false] rfl rfl (by kernel_rfl) (fun _ _ _ h => h) (Or.inl ⟨by rfl, ?_⟩) ?_ ?_
            rotate_left
            · intro w'
              go_simp; with_reducible rfl
            rotate_left
            · show Act.put _ _ _ = _
              simp only [Act.put, List.setIfInBounds_toArray, List.set_cons_zero, List.set_cons_succ, i64_w, i32_w]
              rfl
            refine pure_ (i := 8) (N := some 30) (v := ?_) (a' := ?_) #[true, true, true, true, true, true, true, true, true, false, false, false, false, false, false, false] rfl rfl (by kernel_rfl) (fun _ _ _ h => h) (Or.inl ⟨by rfl, ?_⟩) ?_ ?_
            rotate_left
            · intro w'
              refine (row_run _ _ (by rfl) T 2 p (by rfl) (by rfl) hp8).trans ?_; with_reducible rfl
            rotate_left
            · show Act.put _ _ _ = _
              simp only [Act.put, List.setIfInBounds_toArray, List.set_cons_zero, List.set_cons_succ, i64_w, i32_w]
              rfl
            refine pure_ (i := 9) (N := some 31) (v := ?_) (a' := ?_) #[true, true, true, true, true, true, true, true, true, true, false, false, false, false, false, false] rfl rfl (by kernel_rfl) (fun _ _ _ h => h) (Or.inl ⟨by rfl, ?_⟩) ?_ ?_
            rotate_left
            · intro w'
              refine (col_run _ _ (by rfl) T (2 + p * 8) f (by rfl) (by rfl) hf8).trans ?_; with_reducible rfl
            rotate_left
            · show Act.put _ _ _ = _
              simp only [Act.put, List.setIfInBounds_toArray, List.set_cons_zero, List.set_cons_succ, i64_w, i32_w]
              rfl
            refine pure_ (i := 11) (N := some 32) (v := ?_) (a' := ?_) #[true, true, true, true, true, true, true, true, true, true, false, true, false, false, false, false] rfl rfl (by kernel_rfl) (fun _ _ _ h => h) (Or.inl ⟨by rfl, ?_⟩) ?_ ?_
            rotate_left
            · intro w'
              go_simp; with_reducible rfl
            rotate_left
            · show Act.put _ _ _ = _
              simp only [Act.put, List.setIfInBounds_toArray, List.set_cons_zero, List.set_cons_succ, i64_w, i32_w]
              rfl
            refine pure_ (i := 12) (N := some 33) (v := ?_) (a' := ?_) #[true, true, true, true, true, true, true, true, true, true, false, true, true, false, false, false] rfl rfl (by kernel_rfl) (fun _ _ _ h => h) (Or.inl ⟨by rfl, ?_⟩) ?_ ?_
            rotate_left
            · intro w'
              go_simp; with_reducible rfl
            rotate_left
            · show Act.put _ _ _ = _
              simp only [Act.put, List.setIfInBounds_toArray, List.set_cons_zero, List.set_cons_succ, i64_w, i32_w]
              rfl
            refine pure_ (i := 13) (N := some 34) (v := ?_) (a' := ?_) #[true, true, true, true, true, true, true, true, true, true, false, true, true, true, false, false] rfl rfl (by kernel_rfl) (fun _ _ _ h => h) (Or.inl ⟨by rfl, ?_⟩) ?_ ?_
            rotate_left
            · intro w'
              refine (row_run _ _ (by rfl) T 66 p (by rfl) (by rfl) hp8).trans ?_; with_reducible rfl
            rotate_left
            · show Act.put _ _ _ = _
              simp only [Act.put, List.setIfInBounds_toArray, List.set_cons_zero, List.set_cons_succ, i64_w, i32_w]
              rfl
            refine one_ (i := 10) (N := none) #[true, true, true, true, true, true, true, true, true, true, true, true, true, true, false, false] rfl rfl (by kernel_rfl) (by decide) (fun K hK => ?_)
            refine put_step (by rfl) (by rfl) (put_run _ _ (by rfl) T (2 + p * 8 + f) _ 1000 (by rfl) (by rfl) (TabB.cC (w := wr.drew) BK.out p f hp8 hf8 GR.out.1.1) (TabB.frozen (w := wr.drew) BK.out _)) ?_
            obtain ⟨w5, hw5⟩ : ∃ w5, w5 = wr.drew.setCell ⟨T, 2 + p * 8 + f, none⟩ (.int .i64 1000) := ⟨_, rfl⟩
            have BK5 := Aside0.mk (by rw [hw5]; exact TabB.setC (w := wr.drew) BK.out p f hp8 hf8 GR.out.1.1 1000 : TabB w5 T n (.slice A l.length c) (X.set (8 * p + f) 1000) X)
            have BG5 := Aside0.mk (by rw [hw5]; exact blk_far (w := wr.drew) BG.out NE.out _ : w5.heap[g1]? = some (.cells #[.int .i64 n, .slice A l.length c] 27 (0, 0)))
            have HB5 := Aside0.mk (by rw [hw5]; exact HB.out.drew.setCell HT.out _ : Below w.heap.size w w5)
            rw [← hw5]
            clear hw5 BK BG HB
            refine hK.out _ _ trivial (fun hHeld => ?_)
            clear hK K
            refine pure_ (i := 14) (N := some 35) (v := ?_) (a' := ?_) #[true, true, true, true, true, true, true, true, true, true, true, true, true, true, true, false] rfl rfl (by kernel_rfl) (fun _ _ _ h => h) (Or.inl ⟨by rfl, ?_⟩) ?_ ?_
            rotate_left
            · intro w'
              refine (col_run _ _ (by rfl) T (66 + p * 8) f (by rfl) (by rfl) hf8).trans ?_; with_reducible rfl
            rotate_left
            · show Act.put _ _ _ = _
              simp only [Act.put, List.setIfInBounds_toArray, List.set_cons_zero, List.set_cons_succ, i64_w, i32_w]
              rfl
            refine one_ (i := 15) (N := none) #[true, true, true, true, true, true, true, true, true, true, true, true, true, true, true, true] rfl rfl (by kernel_rfl) (by decide) (fun K hK => ?_)
            refine put_step (by rfl) (by rfl) (put_run _ _ (by rfl) T (66 + p * 8 + f) _ 1000 (by rfl) (by rfl) (BK5.out.cE p f hp8 hf8 (by rw [List.length_set]; exact GR.out.1.1) GR.out.1.1) (BK5.out.frozen _)) ?_
            obtain ⟨w6, hw6⟩ : ∃ w6, w6 = w5.setCell ⟨T, 66 + p * 8 + f, none⟩ (.int .i64 1000) := ⟨_, rfl⟩
            have BK6 := Aside0.mk (by rw [hw6]; exact BK5.out.setE p f hp8 hf8 (by rw [List.length_set]; exact GR.out.1.1) 1000 : TabB w6 T n (.slice A l.length c) (X.set (8 * p + f) 1000) (X.set (8 * p + f) 1000))
            have BG6 := Aside0.mk (by rw [hw6]; exact blk_far BG5.out NE.out _ : w6.heap[g1]? = some (.cells #[.int .i64 n, .slice A l.length c] 27 (0, 0)))
            have HB6 := Aside0.mk (by rw [hw6]; exact HB5.out.setCell HT.out _ : Below w.heap.size w w6)
            rw [← hw6]
            clear hw6 BK5 BG5 HB5
            refine hK.out _ _ trivial (fun hHeld2 => ?_)
            clear hK K
            refine done_ (by kernel_rfl) ?_
            go_wp2
            go_roundg (n - (f + 1))
            case measure => omega
            case rel => exact ⟨f + 1, _, by omega, by omega, by go_num, ⟨Grid.put hp8 hflt hn8 HP.out (by decide) GR.out⟩, BK6, BG6, HB6⟩
        · obtain rfl : f = n := by omega
          go_wp2
          go_roundg (f - (p + 1))
          case measure => omega
          case rel => exact ⟨p + 1, X, by omega, by omega, by go_num, ⟨Grid.row hn8 GR.out⟩, BK, BG, HB⟩
    · obtain rfl : n = p := by omega
      have VS := Aside0.mk (Val.start g GR.out zeros_diag)
      have DX := Aside0.mk (zeros_diag.grid GR.out)
      have IX := Aside0.mk GR.out.1
      clear GR BG hz0
      go_wp2
      obtain ⟨wo, rfl⟩ : ∃ wo : World, wo = wr := ⟨_, rfl⟩
      go_loopg [38] 66 (fun gg _ wr => ∃ (r : Nat) (C E : List Int), 66 - r ≤ gg ∧ Aside0 (r ≤ cnt n l r) ∧ Aside0 (Val n l r C) ∧ Aside0 (Diag C) ∧ Aside0 (Diag E) ∧ Aside0 (InR E) ∧ Aside0 (TabB wr T n (.slice A l.length c) C E) ∧ Aside0 (Below w.heap.size w wr))
      case atStart => exact ⟨0, X, X, by omega, ⟨Nat.zero_le _⟩, VS, DX, DX, IX, BK, HB⟩
      case round =>
        clear VS DX IX BK HB
        obtain ⟨r, C, E, hgr, RC, VC, DC, DE, IE, BK, HB⟩ := hrel
        have hr64 : r ≤ 64 := Nat.le_trans RC.out (cnt_le n l r)
        have IC := Aside0.mk VC.out.1
        have hrow := Aside0.mk (RowS.of (T := T) (Kd.C_below HR.out (⟨HB.out.os, HB.out.tape, HB.out.output, HB.out.size, HB.out.block⟩ : Below w.heap.size w wr)) (fun ad e hl => by have := C_blk HR.out ad e hl; have := HT.out; omega))
        go_wp2_with (first
         | ((with_reducible refine gate_callee (f := 91) rfl ?_); refine goesL_ (some 39) rfl rfl Try.func91 (by kernel_rfl) rfl #[.pointer (some ⟨T, 0, none⟩)] rfl (by (try simp only [List.map_toArray, List.map_cons, List.map_nil]); first | done | rfl) ?_; (with_reducible refine (round_c g A c hc T C E IC.out IE.out wr BK.out hrow.out).mono ?_); rintro e w2 ⟨C', E', rfl, hG1, hG2, hb2, hg2⟩; refine ⟨_, rfl, ?_⟩;
             have HH := Aside0.mk (⟨hG1, hG2, hb2, hg2⟩ : Grid n (mostF l C) E (8 * n) E' ∧ Grid n (fewF l E') C (8 * n) C' ∧ TabB w2 T n (.slice A l.length c) C' E' ∧ wr.grownBy w2 (some T)); clear hG1 hG2 hb2 hg2;
             have HB2 := Aside0.mk (HB.out.grown HH.out.2.2.2 HB.out.size (fun k e => by cases e; exact HT.out) : Below w.heap.size w w2)))
        · have hne0 : (!decide (C' = C)) = true := by assumption
          have hne : ¬ C' = C := by simpa using hne0
          have VE := EVal.of g VC.out DE.out HH.out.1
          have VC2 := Val.step g VC.out DC.out VE HH.out.2.1
          have hch := Val.change g VC.out VC2 HH.out.2.1 hne
          have hr2 : r + 1 ≤ 64 := by have := RC.out; have := cnt_le n l (r + 1); omega
          go_roundg (66 - (r + 1))
          case measure => omega
          case rel => exact ⟨r + 1, C', E', by omega, ⟨by have := RC.out; omega⟩, ⟨VC2⟩, ⟨DC.out.grid HH.out.2.1⟩, ⟨DE.out.grid HH.out.1⟩, ⟨HH.out.1.1⟩, ⟨HH.out.2.2.1⟩, HB2⟩
        · have he0 : (!decide (C' = C)) = false := by assumption
          have he : C' = C := by simpa using he0
          have VE := EVal.of g VC.out DE.out HH.out.1
          have VC2 := Val.step g VC.out DC.out VE HH.out.2.1
          have HF := Aside0.mk (TabFin.of g hr64 VC.out (he ▸ VC2) DE.out HH.out.1)
          have HK := Aside0.mk (he ▸ HH.out.2.2.1 : TabB w2 T n (.slice A l.length c) C E')
          go_ret
          exact ⟨T, C, E', rfl, HT.out, HK.out, HB2.out, HF.out⟩
end Go.Proofs.Ytilanbgciofkjaa.PA
