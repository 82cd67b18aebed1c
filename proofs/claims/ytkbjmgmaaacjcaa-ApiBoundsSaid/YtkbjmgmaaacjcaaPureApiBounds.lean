/- Every bound of package api, and its magic, is what the document writes down: the law's plain half, without conditions. -/
import Derived.Test.YtkbjmgmaaacjcaaPApiBoundsx1
namespace Go.Proofs.Ytkbjmgmaaacjcaa.Pure
open Go.RowKit Go.Proofs.Ytkbjmgmaaacjcaa.PApiBounds Go.Proofs.YtkbjmgmaaacjcaaW.PrintWords Go.Proofs.YtkbjmgmaaacjcaaW.PrintLast

/-- YOURS: ∃ k, winnownames_ApiBounds.f k  = some true
What it reaches (each with k first where it has rounds; `.mono`: more rounds tell the same; `.l0`, ..: its loops, with `.mono_l`): winnownames_pairs.f, winnownames_ApiBounds.f -/
theorem ApiBounds : winnownames_ApiBounds.Pure := by
  exact ⟨300, by decide +kernel⟩

end Go.Proofs.Ytkbjmgmaaacjcaa.Pure
