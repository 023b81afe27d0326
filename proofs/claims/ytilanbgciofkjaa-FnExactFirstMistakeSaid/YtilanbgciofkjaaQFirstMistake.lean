/- FirstMistake returns what the reference returns, for all arguments; no condition beyond the row's own. -/
import Derived.Test.YtilanbgciofkjaaRows
import Derived.Test.YtilanbgciofkjaaLFirstMistake
import Derived.Test.YtilanbgciofkjaaUFirstMistake
import Derived.Test.YtilanbgciofkjaaWr
import Derived.WalkKit
import Derived.ProofKit
import Derived.OpenShut
import Derived.ShutString
import Derived.ChangeOld
import Derived.Below
import Derived.SizedLaws
namespace Go.Proofs.Ytilanbgciofkjaa.fnExactFirstMistake
open Go.ChangeShapes Go.WideShapes Go.ChangeAt Go.RowKit Go.Proofs.Ytilanbgciofkjaa.Wr
set_option linter.unusedVariables false
set_option maxRecDepth 100000 in
theorem lifted (os : Os) (started : os.Started) (H : Type) (enc : TypeId × Value → H) :
    ReturnsInHanded {} Try.checked os 10 .any (Rows.fnExactFirstMistakeSpec.pre6 enc Try.prog Try.f10 Rows.fnExactFirstMistakeRow.domain false) (Rows.fnExactFirstMistakeSpec.post enc Try.prog Try.f10 false true false false) := by
  refine returnsInHanded_of_change_sized (C := Try.checked) ownK started (by kernel_rfl) Try.func10
    (ChangeSpec.witness6 (enc := enc) (C := Try.checked) false ⟨#[], #[.agg #[.int .i64 0, .slice none 0 0], .agg #[.slice none 0 0, .slice none 0 0]], []⟩ 8 (by kernel_rfl) (by kernel_rfl) (by kernel_rfl) (by kernel_rfl)) ?_
  intro W base args ds gs before hval0 hW hcnd hsz0 _
  have hsz : (DataW.weightsEach Try.prog (Try.f10.params.toList ++ Rows.fnExactFirstMistakeSpec.plain.varTypes Try.prog) (ds ++ gs)).all (· ≤ reachBytes) = true := hsz0
  have hval : ∀ (j : Nat) t v, Try.f10.params[j]? = some t → args[j]? = some v → Value.okWide Try.prog W .any base t v := hval0
  have hW' := hW
  obtain ⟨p, q, hA0, hV, rfl, hfz, hnd⟩ := hW
  have hA : DataW.TrodAll enc Try.prog W 0 (fun _ => true) true Try.f10.params.toList args.toList ds p := hA0
  rw [Try.params10] at hA hval hsz
  obtain ⟨v0, vs0, d0, ds0, p0, q0, hargs, rfl, rfl, h0, r0⟩ := trodAll_cons hA
  obtain ⟨v1, vs1, d1, ds1, p1, q1, rfl, rfl, rfl, h1, r1⟩ := trodAll_cons r0
  obtain ⟨rfl, rfl, rfl⟩ := trodAll_nil r1
  obtain rfl : args = #[v0, v1] := by cases args; simp_all
  obtain ⟨rfl, rfl⟩ := trodVars_none hV
  have kk0 := h0
  have lt0 : ∀ x ∈ p0, x.block < W.heap.size := by obtain ⟨m, hm⟩ := kk0; exact DataW.trod_lt m _ _ _ hm
  obtain ⟨n0, Ap0_1, cp0_1, l0_1, rfl, wf0, sl0_1⟩ := open_graph hsz (j := 0) rfl rfl (hval 0 24 v0 rfl rfl) h0
  have kk1 := h1
  have lt1 : ∀ x ∈ p1, x.block < W.heap.size := by obtain ⟨m, hm⟩ := kk1; exact DataW.trod_lt m _ _ _ hm
  obtain ⟨Ap1_0, cp1_0, l1_0, Ap1_1, cp1_1, l1_1, rfl, sl1_0, sl1_1⟩ := open_record hsz (j := 1) rfl rfl (hval 1 39 v1 rfl rfl) h1
  clear hA0 hval0 hsz0 hsz
  refine Calls.mono (R := fun e W' => e = .returned (.bool true) ∧ Below W.heap.size W W') ?_ (fun e W' ⟨he, bel⟩ => ?_)
  · by_cases hz : l0_1.length + l1_0.length + l1_1.length ≤ 1000000
    · obtain ⟨ks, ki, r, hs, hi⟩ := Pure.FirstMistake_holds _ _ _ _ wf0 sl0_1.2.2.2 sl1_0.2.2.2 sl1_1.2.2.2 hz
      exact FnExactFirstMistake_c n0 Ap0_1 cp0_1 l0_1 Ap1_0 cp1_0 l1_0 Ap1_1 cp1_1 l1_1 r ks ki W sl0_1.1 sl0_1.2.1 sl1_0.1 sl1_0.2.1 sl1_1.1 sl1_1.2.1 (by omega) (by omega) (by omega) hz  hs hi
    · by_cases hz0 : l0_1.length ≤ 1000000
      · exact FnExactFirstMistake_big1 n0 Ap0_1 cp0_1 l0_1 Ap1_0 cp1_0 l1_0 Ap1_1 cp1_1 l1_1 W sl0_1.1 sl0_1.2.1 sl1_0.1 sl1_0.2.1 sl1_1.1 sl1_1.2.1 sl0_1.2.2.1 sl1_0.2.2.1 sl1_1.2.2.1 (by omega) (by omega)
      · exact FnExactFirstMistake_big0 n0 Ap0_1 cp0_1 l0_1 Ap1_0 cp1_0 l1_0 Ap1_1 cp1_1 l1_1 W sl0_1.1 sl0_1.2.1 sl1_0.1 sl1_0.2.1 sl1_1.1 sl1_1.2.1 sl0_1.2.2.1 sl1_0.2.2.1 sl1_1.2.2.1 (by omega)
  · subst he
    exact ⟨_, rfl, _, _, _, [], _, [], hW', trodAll_mk1 (shut_bool Try.underlying4 _), (trodAll_cons_mk (Below.trod laidOut (by kernel_rfl) (of_decide_eq_true (by kernel_rfl)) kk0 bel lt0) (trodAll_cons_mk (Below.trod laidOut (by kernel_rfl) (of_decide_eq_true (by kernel_rfl)) kk1 bel lt1) trodAll_mk0)), rfl, bel.frame _, fun h => by cases h⟩
theorem over : Rows.fnExactFirstMistakeRow.holds Try.pinned (OpenSpec.ofChange Rows.fnExactFirstMistakeSpec) :=
  OpenClaim.holds_of_wide 10 Try.f10 rfl rfl rfl rfl rfl rfl rfl ⟨rfl, rfl, rfl, rfl, rfl⟩ rfl rfl rfl rfl rfl (by kernel_rfl) Try.func10 (by kernel_rfl)
    (of_decide_eq_true (by kernel_rfl)) (by unfold Func.isWrapper; first | (rw [if_pos (by decide +kernel)]; kernel_rfl) | (rw [if_neg (by decide +kernel)]; exact ⟨rfl, rfl⟩))
    (fun os started H enc _ => lifted os started H enc)
theorem proved : Rows.FnExactFirstMistakeSaid := over
#print axioms proved
end Go.Proofs.Ytilanbgciofkjaa.fnExactFirstMistake
namespace Go.Proofs.Ytilanbgciofkjaa
theorem fnExactFirstMistake_holds : Rows.FnExactFirstMistakeSaid := fnExactFirstMistake.proved
end Go.Proofs.Ytilanbgciofkjaa
