import Derived.Test.YtbjlfenappnccaaSPartsEven
import Derived.Test.YtbjlfenappnccaaME4
namespace Go.Proofs.Ytbjlfenappnccaa.P
open Go.RowKit Go.Proofs.YtbjlfenappnccaaW.PrintWords Go.Proofs.YtbjlfenappnccaaW.PrintLast

theorem PartsEven_pure : PartsEvenPure := by
  intro a0 a1 h0 h1
  refine ⟨BIG + 5000, ?_⟩
  unfold winnowlaw14_PartsEven.f
  exact even_l0 a0 a1 (by omega) 40 _ 0 [] (by omega) (by simp) (by simp) (by simp) (by omega)

end Go.Proofs.Ytbjlfenappnccaa.P
