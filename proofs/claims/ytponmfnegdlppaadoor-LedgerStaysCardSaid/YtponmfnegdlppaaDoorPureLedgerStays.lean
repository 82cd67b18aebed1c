/- LedgerStays: true of any moves. -/
import Derived.Test.YtponmfnegdlppaaDoorSLedgerStays
namespace Go.Proofs.YtponmfnegdlppaaDoor.P
open Go.RowKit Go.Proofs.YtponmfnegdlppaaDoorW.PrintWords Go.Proofs.YtponmfnegdlppaaDoorW.PrintLast
theorem LedgerStays_pure : LedgerStaysPure := by
  intro a0 a1 a2 a3 _ _ _ h
  unfold winnowlaw19_LedgerStays.f
  rw [if_pos (by omega)]
end Go.Proofs.YtponmfnegdlppaaDoor.P
