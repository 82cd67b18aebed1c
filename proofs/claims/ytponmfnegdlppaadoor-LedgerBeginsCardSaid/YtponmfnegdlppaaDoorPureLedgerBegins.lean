import Derived.Test.YtponmfnegdlppaaDoorSLedgerBegins
namespace Go.Proofs.YtponmfnegdlppaaDoor.P

theorem LedgerBegins_pure : LedgerBeginsPure := by
  intro a0 a1 h0 h1
  unfold winnowlaw19_LedgerBegins.f
  have hb := h0
  unfold ok24 at hb
  exact if_pos ⟨by have := hb.2.1.2.1; omega, by have := hb.2.2.1.2.1; omega⟩

end Go.Proofs.YtponmfnegdlppaaDoor.P
