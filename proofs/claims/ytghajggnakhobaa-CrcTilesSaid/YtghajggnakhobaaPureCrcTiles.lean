import Derived.Test.YtghajggnakhobaaSCrcTiles
namespace Go.Proofs.Ytghajggnakhobaa.P
open Go.RowKit

theorem CrcTiles_pure : CrcTilesPure := by
  intro a0 h0
  unfold winnowlaw1_CrcTiles.f
  rw [if_pos ⟨by omega, fun x hx => wf8 (h0.2.2 x hx)⟩]

end Go.Proofs.Ytghajggnakhobaa.P
