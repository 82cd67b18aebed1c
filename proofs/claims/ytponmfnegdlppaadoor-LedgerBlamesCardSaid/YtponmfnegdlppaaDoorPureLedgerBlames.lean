import Derived.Test.YtponmfnegdlppaaDoorSLedgerBlames
namespace Go.Proofs.YtponmfnegdlppaaDoor.P

theorem LedgerBlames_pure : LedgerBlamesPure := by
  intro a0 a1 a2 a3 h0 h1 h2 h3
  unfold winnowlaw19_LedgerBlames.f
  have hb := h0
  unfold ok24 at hb
  exact if_pos ⟨by have := hb.2.1.2.1; omega, by have := hb.2.2.1.2.1; omega⟩

end Go.Proofs.YtponmfnegdlppaaDoor.P
