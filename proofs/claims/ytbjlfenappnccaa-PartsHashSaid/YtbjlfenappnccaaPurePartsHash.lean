/- Hash answers as the document's own does, for every key and number. No conditions but the row's own. -/
import Derived.Test.YtbjlfenappnccaaSPartsHash
namespace Go.Proofs.Ytbjlfenappnccaa.P
open Go.RowKit Go.Proofs.YtbjlfenappnccaaW.PrintWords Go.Proofs.YtbjlfenappnccaaW.PrintLast Go.Proofs.Ytbjlfenappnccaa.Hand

theorem PartsHash_pure : PartsHashPure := by
  intro s n hs _
  unfold winnowlaw14_PartsHash.f parts_Hash.f winnowref14_Hash.f
  rw [if_pos hs, Option.bind_some, Option.bind_some, beq_self_eq_true]
end Go.Proofs.Ytbjlfenappnccaa.P
