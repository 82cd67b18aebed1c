/- Every error of package api has the number that the document writes down: the law's plain half, without conditions. -/
import Derived.Test.YtkbjmgmaaacjcaaPApiErrorsx1
namespace Go.Proofs.Ytkbjmgmaaacjcaa.Pure
open Go.RowKit Go.Proofs.Ytkbjmgmaaacjcaa.PApiErrors Go.Proofs.YtkbjmgmaaacjcaaW.PrintWords Go.Proofs.YtkbjmgmaaacjcaaW.PrintLast

/-- YOURS: ∃ k, winnownames_ApiErrors.f k  = some true
What it reaches (each with k first where it has rounds; `.mono`: more rounds tell the same; `.l0`, ..: its loops, with `.mono_l`): winnownames_pairs.f, winnownames_ApiErrors.f -/
theorem ApiErrors : winnownames_ApiErrors.Pure := by
  exact ⟨300, by decide +kernel⟩

end Go.Proofs.Ytkbjmgmaaacjcaa.Pure
