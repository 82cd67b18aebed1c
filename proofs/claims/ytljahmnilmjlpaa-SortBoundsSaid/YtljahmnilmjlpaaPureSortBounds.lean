import Derived.Test.YtljahmnilmjlpaaSSortBounds
namespace Go.Proofs.Ytljahmnilmjlpaa.P
open Go.RowKit

theorem SortBounds_pure : SortBoundsPure := by
  intro a0 a1 h0 h1
  unfold winnowlaw10_SortBounds.f
  rw [if_pos ⟨by omega, fun x hx => (h1.2.2 x hx).2.1, fun x hx => (h1.2.2 x hx).2.2⟩]

end Go.Proofs.Ytljahmnilmjlpaa.P
