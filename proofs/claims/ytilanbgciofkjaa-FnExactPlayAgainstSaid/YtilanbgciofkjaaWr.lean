/- Opening the statements' arguments: a struct with a slice, a struct with two slices, a slice, as the walks take them. -/
import Derived.Test.YtilanbgciofkjaaWa
import Derived.Test.YtilanbgciofkjaaWSized
import Derived.Test.YtilanbgciofkjaaChecked
import Derived.Lib.SmallJoins
import Derived.WalkKit
import Derived.ProofKit
import Derived.OpenShut
import Derived.Below
import Derived.SizedLaws
namespace Go.Proofs.Ytilanbgciofkjaa.Wr
open Go.ChangeShapes Go.WideShapes Go.ChangeAt Go.RowKit Go.Joins Go.Proofs.YtilanbgciofkjaaW.PrintWords
set_option linter.unusedVariables false
set_option linter.unusedSimpArgs false

/-- a slice of integers, as the walks take it -/
def SlP (W : World) (A : Option Addr) (c : Nat) (l : List Int) : Prop := Kd.C (Kd.int .i64) W A l.length l ∧ l.length ≤ c ∧ l.length ≤ 17592186044416 ∧ ∀ x ∈ l, (Lit.int .i64 x).wf = true
theorem sized_in {H : Type} {P : Program} {ts us : List TypeId} {ds es : List (DataW H)} {t j : Nat} (hsz : (DataW.weightsEach P ts ds).all (· ≤ reachBytes) = true) (ht : ts[j]? = some t) (hd : ds[j]? = some (.agg es))
    (hw : DataW.weights P t (.agg es) = DataW.weightsEach P us es) : (DataW.weightsEach P us es).all (· ≤ reachBytes) = true := by
  rw [List.all_eq_true] at hsz ⊢
  intro n hn
  exact hsz n (DataW.weights_mem_each ht hd n (by rw [hw]; exact hn))
theorem open_ints_p {H : Type} {enc : TypeId × Value → H} {W : World} {base : Nat} {spare : Nat → Bool} {held : Bool} {v : Value} {d : DataW H} {ps : List MemPlace} {ts : List TypeId} {ds : List (DataW H)} {j : Nat}
    (hsz : (DataW.weightsEach Try.prog ts ds).all (· ≤ reachBytes) = true) (ht : ts[j]? = some 22) (hd : ds[j]? = some d) (hv : ∃ a n c, v = .slice a n c)
    (h : DataW.Trod enc Try.prog W base spare held 22 v d ps) : ∃ (A : Option Addr) (c : Nat) (l : List Int), v = .slice A l.length c ∧ SlP W A c l := by
  obtain ⟨a, len, cap, rfl⟩ := hv
  have hs := sized_ints hsz ht hd Try.underlying22 Try.underlying3 (by kernel_rfl) (B := 8) (by kernel_rfl) h
  obtain ⟨fuel, hf⟩ := h
  rcases open_ints Try.underlying22 Try.underlying3 (by kernel_rfl) hf with ⟨hcs, _⟩ | ⟨x, l, c, zs, hcs, _, hl, hm, hz, _, hcell, hwz⟩
  · simp [Value.cells] at hcs
    obtain ⟨rfl, rfl, rfl⟩ := hcs
    exact ⟨none, 0, [], rfl, Kd.C_nil _ _, Nat.le_refl _, Nat.zero_le _, fun x hx => by cases hx⟩
  · simp [Value.cells] at hcs
    obtain ⟨rfl, rfl, rfl⟩ := hcs
    have hz2 : len ≤ zs.length := by
      rw [hz]; split
      · exact hl
      · exact Nat.le_refl _
    have hlt : (zs.take len).length = len := by rw [List.length_take]; omega
    refine ⟨some x, cap, zs.take len, by rw [hlt], ?_, by rw [hlt]; exact hl, by rw [hlt]; omega, fun x hx => hwz x (List.mem_of_mem_take hx)⟩
    refine Kd.C_of_reads (enc := Value.int .i64) (d := (0 : Int)) ⟨by simp, by rw [hlt]; omega, fun hn => ⟨x, rfl, fun j hj => ?_⟩⟩
    rw [hlt] at hj
    rw [hcell j (by omega)]
    congr 2
    simp [List.getD_eq_getElem?_getD, List.getElem?_take_of_lt hj]
set_option maxRecDepth 100000 in
theorem open_graph {H : Type} {enc : TypeId × Value → H} {W : World} {base : Nat} {spare : Nat → Bool} {held : Bool} {b0 : Nat} {r : Reach} {v : Value} {d : DataW H} {ps : List MemPlace} {ts : List TypeId} {ds : List (DataW H)} {j : Nat}
    (hsz : (DataW.weightsEach Try.prog ts ds).all (· ≤ reachBytes) = true) (ht : ts[j]? = some 24) (hd : ds[j]? = some d) (hv : Value.okWide Try.prog W r b0 24 v)
    (h : DataW.Trod enc Try.prog W base spare held 24 v d ps) : ∃ (n : Int) (A : Option Addr) (c : Nat) (l : List Int), v = .agg #[.int .i64 n, .slice A l.length c] ∧ (Lit.int .i64 n).wf = true ∧ SlP W A c l := by
  obtain ⟨v0, v1, y0, y1, m, rfl, rfl, rfl, h0, h1⟩ := open_agg2 Try.underlying24 (by kernel_rfl) (by kernel_rfl) hv h
  obtain ⟨n, e0, _, wn⟩ := DataW.trod_int Try.underlying3 h0
  obtain ⟨a, len, cap, e1⟩ := slice_form Try.underlying22 h1
  simp at e0 e1
  subst e0 e1
  have hs2 := sized_in (us := [3, 22]) hsz ht hd (by simp [DataW.weights, Try.underlying24])
  obtain ⟨A, c, l, e2, hp⟩ := open_ints_p (j := 1) (ps := y1.2) hs2 rfl rfl ⟨a, len, cap, rfl⟩ ⟨m, h1⟩
  exact ⟨n, A, c, l, by rw [e2], wn, hp⟩
theorem ownK : ownKnob Try.prog.godebug = none := by kernel_rfl
theorem laidOut : laidOutB Try.prog = true := by kernel_rfl
end Go.Proofs.Ytilanbgciofkjaa.Wr
