import Derived.Test.YtghajggnakhobaaSCrcSums
namespace Go.Proofs.Ytghajggnakhobaa.P
open Go.RowKit

theorem CrcSums_pure : CrcSumsPure := by
  intro a0 a1 h0 _
  unfold winnowlaw1_CrcSums.f
  rw [if_pos (by omega)]

end Go.Proofs.Ytghajggnakhobaa.P
