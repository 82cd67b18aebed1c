/- The kinds and states of package api are numbered from 0 on, in their order: the law's plain half, without conditions. -/
import Derived.Test.YtkbjmgmaaacjcaaPApiKindsx1
namespace Go.Proofs.Ytkbjmgmaaacjcaa.Pure
open Go.RowKit Go.Proofs.Ytkbjmgmaaacjcaa.PApiKinds Go.Proofs.YtkbjmgmaaacjcaaW.PrintWords Go.Proofs.YtkbjmgmaaacjcaaW.PrintLast

/-- YOURS: ∃ k, winnownames_ApiKinds.f k  = some true
What it reaches (each with k first where it has rounds; `.mono`: more rounds tell the same; `.l0`, ..: its loops, with `.mono_l`): winnownames_rising.f, winnownames_ApiKinds.f -/
theorem ApiKinds : winnownames_ApiKinds.Pure := by
  exact ⟨300, by decide +kernel⟩

end Go.Proofs.Ytkbjmgmaaacjcaa.Pure
