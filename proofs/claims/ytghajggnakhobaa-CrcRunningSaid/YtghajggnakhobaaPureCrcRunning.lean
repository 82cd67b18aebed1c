import Derived.Test.YtghajggnakhobaaSCrcRunning
namespace Go.Proofs.Ytghajggnakhobaa.P
open Go.RowKit

theorem CrcRunning_pure : CrcRunningPure := by
  intro a0 h0
  unfold winnowlaw1_CrcRunning.f
  rw [if_pos ⟨by omega, fun x hx => by have := (h0.2.2 x hx).2.2.2.1; omega⟩]

end Go.Proofs.Ytghajggnakhobaa.P
