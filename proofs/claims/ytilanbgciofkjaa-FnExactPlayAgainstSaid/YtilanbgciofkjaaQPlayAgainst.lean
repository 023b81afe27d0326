/- PlayAgainst returns what the reference returns, for all arguments; no condition beyond the row's own. -/
import Derived.Test.YtilanbgciofkjaaRows
import Derived.Test.YtilanbgciofkjaaLPlayAgainst
import Derived.Test.YtilanbgciofkjaaUPlayAgainst
import Derived.Test.YtilanbgciofkjaaWr
import Derived.WalkKit
import Derived.ProofKit
import Derived.OpenShut
import Derived.ShutString
import Derived.ChangeOld
import Derived.Below
import Derived.SizedLaws
namespace Go.Proofs.Ytilanbgciofkjaa.fnExactPlayAgainst
open Go.ChangeShapes Go.WideShapes Go.ChangeAt Go.RowKit Go.Proofs.Ytilanbgciofkjaa.Wr
set_option linter.unusedVariables false
set_option maxRecDepth 100000 in
theorem lifted (os : Os) (started : os.Started) (H : Type) (enc : TypeId × Value → H) :
    ReturnsInHanded {} Try.checked os 11 .any (Rows.fnExactPlayAgainstSpec.pre6 enc Try.prog Try.f11 Rows.fnExactPlayAgainstRow.domain false) (Rows.fnExactPlayAgainstSpec.post enc Try.prog Try.f11 false true false false) := by
  refine returnsInHanded_of_change_sized (C := Try.checked) ownK started (by kernel_rfl) Try.func11
    (ChangeSpec.witness6 (enc := enc) (C := Try.checked) false ⟨#[], #[.agg #[.int .i64 0, .slice none 0 0], .int .i64 0, .int .i64 0, .slice none 0 0], []⟩ 8 (by kernel_rfl) (by kernel_rfl) (by kernel_rfl) (by kernel_rfl)) ?_
  intro W base args ds gs before hval0 hW hcnd hsz0 _
  have hsz : (DataW.weightsEach Try.prog (Try.f11.params.toList ++ Rows.fnExactPlayAgainstSpec.plain.varTypes Try.prog) (ds ++ gs)).all (· ≤ reachBytes) = true := hsz0
  have hval : ∀ (j : Nat) t v, Try.f11.params[j]? = some t → args[j]? = some v → Value.okWide Try.prog W .any base t v := hval0
  have hW' := hW
  obtain ⟨p, q, hA0, hV, rfl, hfz, hnd⟩ := hW
  have hA : DataW.TrodAll enc Try.prog W 0 (fun _ => true) true Try.f11.params.toList args.toList ds p := hA0
  rw [Try.params11] at hA hval hsz
  obtain ⟨v0, vs0, d0, ds0, p0, q0, hargs, rfl, rfl, h0, r0⟩ := trodAll_cons hA
  obtain ⟨v1, vs1, d1, ds1, p1, q1, rfl, rfl, rfl, h1, r1⟩ := trodAll_cons r0
  obtain ⟨v2, vs2, d2, ds2, p2, q2, rfl, rfl, rfl, h2, r2⟩ := trodAll_cons r1
  obtain ⟨v3, vs3, d3, ds3, p3, q3, rfl, rfl, rfl, h3, r3⟩ := trodAll_cons r2
  obtain ⟨rfl, rfl, rfl⟩ := trodAll_nil r3
  obtain rfl : args = #[v0, v1, v2, v3] := by cases args; simp_all
  obtain ⟨rfl, rfl⟩ := trodVars_none hV
  have kk0 := h0
  have lt0 : ∀ x ∈ p0, x.block < W.heap.size := by obtain ⟨m, hm⟩ := kk0; exact DataW.trod_lt m _ _ _ hm
  obtain ⟨n0, Ap0_1, cp0_1, l0_1, rfl, wf0, sl0_1⟩ := open_graph hsz (j := 0) rfl rfl (hval 0 24 v0 rfl rfl) h0
  obtain ⟨a1, rfl, rfl, rfl, wf1⟩ := open_int Try.underlying3 (hval 1 3 v1 rfl rfl) h1
  obtain ⟨a2, rfl, rfl, rfl, wf2⟩ := open_int Try.underlying3 (hval 2 3 v2 rfl rfl) h2
  have kk3 := h3
  have lt3 : ∀ x ∈ p3, x.block < W.heap.size := by obtain ⟨m, hm⟩ := kk3; exact DataW.trod_lt m _ _ _ hm
  obtain ⟨ai3, ni3, ci3, ei3⟩ := okWide_slice Try.underlying22 (hval 3 22 v3 rfl rfl)
  obtain ⟨Ap3, cp3, l3, rfl, sl3⟩ := open_ints_p hsz (j := 3) rfl rfl ⟨ai3, ni3, ci3, ei3⟩ h3
  clear ei3
  clear hA0 hval0 hsz0 hsz
  refine Calls.mono (R := fun e W' => e = .returned (.bool true) ∧ Below W.heap.size W W') ?_ (fun e W' ⟨he, bel⟩ => ?_)
  · by_cases hz : l0_1.length + l3.length ≤ 1000000
    · obtain ⟨ks, ki, r1, r2, r3, hs, hi, hlr1, hlr2⟩ := Pure.PlayAgainst_holds _ _ _ _ _ wf0 sl0_1.2.2.2 wf1 wf2 sl3.2.2.2 hz
      exact FnExactPlayAgainst_c n0 Ap0_1 cp0_1 l0_1 a1 a2 Ap3 cp3 l3 r1 r2 r3 ks ki W sl0_1.1 sl0_1.2.1 sl3.1 sl3.2.1 (by omega) (by omega) hz hlr1 hlr2 hs hi
    · exact FnExactPlayAgainst_big0 n0 Ap0_1 cp0_1 l0_1 a1 a2 Ap3 cp3 l3 W sl0_1.1 sl0_1.2.1 sl3.1 sl3.2.1 sl0_1.2.2.1 sl3.2.2.1 (by omega)
  · subst he
    exact ⟨_, rfl, _, _, _, [], _, [], hW', trodAll_mk1 (shut_bool Try.underlying4 _), (trodAll_cons_mk (Below.trod laidOut (by kernel_rfl) (of_decide_eq_true (by kernel_rfl)) kk0 bel lt0) (trodAll_cons_mk (shut_int Try.underlying3 wf1) (trodAll_cons_mk (shut_int Try.underlying3 wf2) (trodAll_cons_mk (Below.trod laidOut (by kernel_rfl) (of_decide_eq_true (by kernel_rfl)) kk3 bel lt3) trodAll_mk0)))), rfl, bel.frame _, fun h => by cases h⟩
theorem over : Rows.fnExactPlayAgainstRow.holds Try.pinned (OpenSpec.ofChange Rows.fnExactPlayAgainstSpec) :=
  OpenClaim.holds_of_wide 11 Try.f11 rfl rfl rfl rfl rfl rfl rfl ⟨rfl, rfl, rfl, rfl, rfl⟩ rfl rfl rfl rfl rfl (by kernel_rfl) Try.func11 (by kernel_rfl)
    (of_decide_eq_true (by kernel_rfl)) (by unfold Func.isWrapper; first | (rw [if_pos (by decide +kernel)]; kernel_rfl) | (rw [if_neg (by decide +kernel)]; exact ⟨rfl, rfl⟩))
    (fun os started H enc _ => lifted os started H enc)
theorem proved : Rows.FnExactPlayAgainstSaid := over
#print axioms proved
end Go.Proofs.Ytilanbgciofkjaa.fnExactPlayAgainst
namespace Go.Proofs.Ytilanbgciofkjaa
theorem fnExactPlayAgainst_holds : Rows.FnExactPlayAgainstSaid := fnExactPlayAgainst.proved
end Go.Proofs.Ytilanbgciofkjaa
