/- Two whole tables of 64 numbers, compared. -/
import Derived.Test.YtilanbgciofkjaaTw
import Derived.ChangeKeysEq
namespace Go.Proofs.Ytilanbgciofkjaa.PA
open Go.RowKit Go.Proofs.YtilanbgciofkjaaW.PrintWords Go.Proofs.YtilanbgciofkjaaW.PrintLast Go.Proofs.YtilanbgciofkjaaW.PrintMore Go.Proofs.Ytilanbgciofkjaa.Pure
set_option linter.unusedVariables false
set_option linter.unusedSimpArgs false
theorem eqItems_gen {P : Program} (w : World) (d : Nat) (e : TypeId) (c : Nat) (xs ys : Array Value) (a b : Nat → Value) (q : Nat → Bool) : ∀ is : List Nat,
    (∀ i ∈ is, (part e xs (i * c)).run P w = .ok (a i) w ∧ (part e ys (i * c)).run P w = .ok (b i) w ∧ (Op.equalIn d e (a i) (b i)).run P w = .ok (q i) w) → (Op.eqItems d e c xs ys is).run P w = .ok (is.all q) w
  | [], _ => by simp [Op.eqItems]
  | i :: is, h => by
    obtain ⟨h1, h2, h3⟩ := h i List.mem_cons_self
    have ih := eqItems_gen w d e c xs ys a b q is (fun j hj => h j (List.mem_cons_of_mem _ hj))
    simp only [Op.eqItems, Sem.run_bind, h1, h2, h3, Result.andThen_ok, List.all_cons]
    cases q i
    · simp
    · simpa using ih
def rowOf (C : List Int) (i : Nat) : List Int := (C.drop (i * 8)).take 8
theorem extract_row (C : List Int) (i : Nat) : ((C.map vI).toArray).extract (i * 8) (i * 8 + 8) = ((rowOf C i).map vI).toArray := by
  simp [rowOf, List.map_drop, List.map_take, List.drop_take]
theorem infRow : ∃ i, Try.prog.info? 64 = some i ∧ i.size = 8 := by
  have h : (Try.prog.info? 64).map (·.size) = some 8 := by kernel_rfl
  obtain ⟨i, hi, hs⟩ := Option.map_eq_some_iff.1 h
  exact ⟨i, hi, hs⟩
theorem infInt : ∃ i, Try.prog.info? 3 = some i ∧ i.size = 1 := by
  have h : (Try.prog.info? 3).map (·.size) = some 1 := by kernel_rfl
  obtain ⟨i, hi, hs⟩ := Option.map_eq_some_iff.1 h
  exact ⟨i, hi, hs⟩
theorem part_row (C : List Int) (i : Nat) (w : World) : (part 64 (C.map vI).toArray (i * 8)).run Try.prog w = .ok (.agg ((rowOf C i).map vI).toArray) w := by
  obtain ⟨j, hj, hs⟩ := infRow
  have ha : (isAgg 64).run Try.prog w = .ok true w := by
    unfold isAgg
    rw [Sem.run_bind, run_underlying Try.underlying64 w]
    simp
  have hz : (sizeOf 64).run Try.prog w = .ok 8 w := by simp [sizeOf, typeInfo, hj, hs]
  simp only [part, Sem.run_bind, ha, Result.andThen_ok, if_true, hz, Sem.run_pure, extract_row]
theorem part_int (X : List Int) (i : Nat) (hi : i < X.length) (w : World) : (part 3 (X.map vI).toArray (i * 1)).run Try.prog w = .ok (vI (X.getD i 0)) w := by
  have ha : (isAgg 3).run Try.prog w = .ok false w := by
    unfold isAgg
    rw [Sem.run_bind, run_underlying Try.underlying3 w]
    simp
  have hx : ((X.map vI).toArray)[i * 1]? = some (vI (X.getD i 0)) := by
    rw [Nat.mul_one, List.getElem?_toArray, List.getElem?_map, List.getElem?_eq_getElem hi, List.getD_eq_getElem?_getD, List.getElem?_eq_getElem hi]; rfl
  simp only [part, Sem.run_bind, ha, Result.andThen_ok, hx]
  simp
theorem int_eq (d : Nat) (a b : Int) (w : World) : (Op.equalIn (d + 1) 3 (vI a) (vI b)).run Try.prog w = .ok (a == b) w := by
  simp [Op.equalIn, run_underlying Try.underlying3]
theorem row_eq (d : Nat) (X Y : List Int) (hX : X.length = 8) (hY : Y.length = 8) (w : World) :
    (Op.equalIn (d + 2) 64 (.agg (X.map vI).toArray) (.agg (Y.map vI).toArray)).run Try.prog w = .ok ((List.range 8).all fun j => X.getD j 0 == Y.getD j 0) w := by
  obtain ⟨i, hi, hs⟩ := infInt
  have hc : Try.prog.cellsOf 3 = 1 := by simp [Program.cellsOf, hi, hs]
  rw [run_equalIn_array w (d + 1) _ _ Try.underlying64 hi, hc]
  exact eqItems_gen w (d + 1) 3 1 _ _ (fun j => vI (X.getD j 0)) (fun j => vI (Y.getD j 0)) _ _ (fun j hj => ⟨part_int X j (by have := List.mem_range.1 hj; omega) w, part_int Y j (by have := List.mem_range.1 hj; omega) w, int_eq d _ _ w⟩)
theorem rowOf_len (C : List Int) (i : Nat) (hC : C.length = 64) (hi : i < 8) : (rowOf C i).length = 8 := by simp [rowOf, hC]; omega
theorem rowOf_at (C : List Int) (i j : Nat) (hj : j < 8) : (rowOf C i).getD j 0 = C.getD (8 * i + j) 0 := by
  rw [rowOf, List.getD_eq_getElem?_getD, List.getD_eq_getElem?_getD, List.getElem?_take, if_pos hj, List.getElem?_drop, Nat.mul_comm]
theorem all_rows (C D : List Int) (hC : C.length = 64) (hD : D.length = 64) : ((List.range 8).all fun i => (List.range 8).all fun j => (rowOf C i).getD j 0 == (rowOf D i).getD j 0) = decide (C = D) := by
  rw [Bool.eq_iff_iff, decide_eq_true_eq, List.all_eq_true]
  constructor
  · intro h
    apply List.ext_getElem (by omega)
    intro i h1 h2
    have h3 := h (i / 8) (List.mem_range.2 (by omega))
    rw [List.all_eq_true] at h3
    have h4 := h3 (i % 8) (List.mem_range.2 (by omega))
    rw [beq_iff_eq, rowOf_at _ _ _ (by omega), rowOf_at _ _ _ (by omega), show 8 * (i / 8) + i % 8 = i from by omega] at h4
    simpa [List.getD_eq_getElem?_getD, List.getElem?_eq_getElem, h1, h2] using h4
  · rintro rfl i _
    simp
theorem tab_eq (d : Nat) (C D : List Int) (hC : C.length = 64) (hD : D.length = 64) (w : World) :
    (Op.equalIn (d + 3) 65 (.agg (C.map vI).toArray) (.agg (D.map vI).toArray)).run Try.prog w = .ok (decide (C = D)) w := by
  obtain ⟨i, hi, hs⟩ := infRow
  have hc : Try.prog.cellsOf 64 = 8 := by simp [Program.cellsOf, hi, hs]
  rw [run_equalIn_array w (d + 2) _ _ Try.underlying65 hi, hc, ← all_rows C D hC hD]
  refine eqItems_gen w (d + 2) 64 8 _ _ (fun j => .agg ((rowOf C j).map vI).toArray) (fun j => .agg ((rowOf D j).map vI).toArray) _ _ (fun j hj => ⟨part_row C j w, part_row D j w, ?_⟩)
  have hj' := List.mem_range.1 hj
  exact row_eq d _ _ (rowOf_len C j hC hj') (rowOf_len D j hD hj') w
theorem tab_neq (C D : List Int) (hC : C.length = 64) (hD : D.length = 64) (w : World) : (binOp .neq 65 (.agg (C.map vI).toArray) (.agg (D.map vI).toArray)).run Try.prog w = .ok (.bool (!decide (C = D))) w := by
  have h : (Op.equalIn (9997 + 3) 65 (.agg (C.map vI).toArray) (.agg (D.map vI).toArray)).run Try.prog w = .ok (decide (C = D)) w := tab_eq 9997 C D hC hD w
  simp only [binOp, Op.equal, Op.maxDepth, Sem.run_bind, h, Result.andThen_ok, Sem.run_pure]
theorem tab_guard (x y : Operand) (C D : List Int) (w : World) : (eqGuard .neq 65 x y (.agg (C.map vI).toArray) (.agg (D.map vI).toArray)).run Try.prog w = .ok () w := by
  have h : Try.prog.eqGuardType Try.prog.depth 65 = false := by kernel_rfl
  simp [eqGuard, h]
theorem neq_run {a : Act} {o : Oper} {W : World} (x y : Operand) (z : TypeId) (ho : o.op = .binOp .neq 65 x y z) (C D : List Int) (hx : a.eval x = .agg (C.map vI).toArray) (hy : a.eval y = .agg (D.map vI).toArray) (hC : C.length = 64) (hD : D.length = 64) :
    (execOp a.eval o).run Try.prog W = .ok (.value (.bool (!decide (C = D)))) W := by
  unfold execOp
  simp only [ho, hx, hy, Sem.run_bind, tab_guard, tab_neq C D hC hD, Result.andThen_ok, Sem.run_pure]
end Go.Proofs.Ytilanbgciofkjaa.PA
