import Derived.Test.YtbcggfjfgoabpaaSLinesAllUpto
namespace Go.Proofs.Ytbcggfjfgoabpaa.P
open Go.RowKit Go.Proofs.Ytbcggfjfgoabpaa.OpenWords

theorem LinesAllUpto_pure : LinesAllPureUpto := by
  intro a0 a1 h0 h1 h2
  unfold winnowlaw13_LinesAll.f
  have hb : -9223372036854775808 ≤ a1 ∧ a1 ≤ 9223372036854775807 := by simpa [Lit.wf, IntKind.min, IntKind.max, IntKind.signed, IntKind.bits] using h1
  have hs : a0.f1.size ≤ 4194304 := by
    unfold bk23 at h2
    omega
  rw [if_pos ⟨hs, hb⟩]

end Go.Proofs.Ytbcggfjfgoabpaa.P
