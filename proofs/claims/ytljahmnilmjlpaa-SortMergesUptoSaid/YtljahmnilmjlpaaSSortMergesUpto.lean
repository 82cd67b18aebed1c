-- Written by a program of this session (wip/tools/hprint.py, over the kit's printer), not by hand. Lean checks it.
import Derived.Test.YtljahmnilmjlpaaOpens
import Derived.Test.YtljahmnilmjlpaaPf5
namespace Go.Proofs.Ytljahmnilmjlpaa.P
open Go.Proofs.Ytljahmnilmjlpaa.OpenWords Go.RowKit
set_option linter.unusedVariables false
/-- The one pure statement. -/
def SortMergesPureUpto : Prop := ∀ (a0 : List (S23)) (a1 : List (S23)), (a0.length ≤ maxLen ∧ a0.length * 40 ≤ 140737488351232 ∧ ∀ x ∈ a0, ok23 x) → (a1.length ≤ maxLen ∧ a1.length * 40 ≤ 140737488351232 ∧ ∀ x ∈ a1, ok23 x) → (((a0.map fun x => (bk23 x)).sum + 1) + ((a1.map fun x => (bk23 x)).sum + 1) ≤ 1048576) → ∃ k, winnowlaw10_SortMerges.f k a0 a1 = some true
end Go.Proofs.Ytljahmnilmjlpaa.P
