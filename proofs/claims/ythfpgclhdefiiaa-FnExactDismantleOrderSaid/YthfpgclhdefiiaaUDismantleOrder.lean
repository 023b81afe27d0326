/- The plain law of DismantleOrder. -/
import Derived.Test.YthfpgclhdefiiaaVDismantleOrder
import Derived.Test.YthfpgclhdefiiaaEDismantleOrder
namespace Go.Proofs.Ythfpgclhdefiiaa.Pure
open Go.RowKit Go.Proofs.YthfpgclhdefiiaaW.PrintWords Go.Proofs.YthfpgclhdefiiaaW.PrintLast Go.Proofs.Ythfpgclhdefiiaa.PA
theorem DismantleOrder_holds : DismantleOrder := by
  intro n l _ _ _
  by_cases g : GOk n l
  · obtain ⟨ks, h1⟩ := DismantleOrderspec_t g
    obtain ⟨ki, h2⟩ := DismantleOrderimpl_t g
    exact ⟨ks, ki, _, h1 ks (Nat.le_refl _), h2 ki (Nat.le_refl _), by have := dis_len l 256 (2 ^ l.length - 1); rw [List.length_map]; omega⟩
  · obtain ⟨ks, h1⟩ := DismantleOrderspec_f g
    obtain ⟨ki, h2⟩ := DismantleOrderimpl_f g
    exact ⟨ks, ki, _, h1 ks (Nat.le_refl _), h2 ki (Nat.le_refl _), by simp⟩
end Go.Proofs.Ythfpgclhdefiiaa.Pure
