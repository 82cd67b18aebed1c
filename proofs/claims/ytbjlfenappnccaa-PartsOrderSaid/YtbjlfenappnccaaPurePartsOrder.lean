import Derived.Test.YtbjlfenappnccaaSPartsOrder
namespace Go.Proofs.Ytbjlfenappnccaa.P
open Go.RowKit

theorem PartsOrder_pure : PartsOrderPure := by
  intro a0 a1 a2 h0 h1 h2
  unfold winnowlaw14_PartsOrder.f
  have hb : -9223372036854775808 ≤ a1 ∧ a1 ≤ 9223372036854775807 := by simpa [Lit.wf, IntKind.min, IntKind.max, IntKind.signed, IntKind.bits] using h1
  rw [if_pos ⟨⟨by omega, h2.2.2⟩, hb⟩]

end Go.Proofs.Ytbjlfenappnccaa.P
