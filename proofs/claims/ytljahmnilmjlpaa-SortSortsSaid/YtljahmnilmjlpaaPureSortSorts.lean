import Derived.Test.YtljahmnilmjlpaaSSortSorts
namespace Go.Proofs.Ytljahmnilmjlpaa.P
open Go.RowKit

theorem SortSorts_pure : SortSortsPure := by
  intro a0 h0
  unfold winnowlaw10_SortSorts.f
  rw [if_pos ⟨by omega, fun x hx => (h0.2.2 x hx).2.1⟩]

end Go.Proofs.Ytljahmnilmjlpaa.P
