-- Written by a program of this session (wip/tools/hprint.py, over the kit's printer), not by hand. Lean checks it.
import Derived.Test.YtljahmnilmjlpaaOpens
import Derived.Test.YtljahmnilmjlpaaPf3
namespace Go.Proofs.Ytljahmnilmjlpaa.P
open Go.Proofs.Ytljahmnilmjlpaa.OpenWords Go.RowKit
/-- The one pure statement. -/
def SortComparesPure : Prop := ∀ (a0 : S23) (a1 : S23), (ok23 a0) → (ok23 a1) → ∃ k, winnowlaw10_SortCompares.f k a0.f0 a0.f1 a0.f2 a1.f0 a1.f1 a1.f2 = some true
end Go.Proofs.Ytljahmnilmjlpaa.P
