import Derived.Test.YtbjlfenappnccaaSPartsBounds
namespace Go.Proofs.Ytbjlfenappnccaa.P
open Go.RowKit

theorem PartsBounds_pure : PartsBoundsPure := by
  intro a0 a1 h0 h1
  unfold winnowlaw14_PartsBounds.f
  rw [if_pos ⟨by omega, h0.2.2⟩]

end Go.Proofs.Ytbjlfenappnccaa.P
