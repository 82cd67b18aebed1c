/- LedgerPaid: true of any moves. -/
import Derived.Test.YtponmfnegdlppaaDoorSLedgerPaid
namespace Go.Proofs.YtponmfnegdlppaaDoor.P
open Go.RowKit Go.Proofs.YtponmfnegdlppaaDoorW.PrintWords Go.Proofs.YtponmfnegdlppaaDoorW.PrintLast
theorem LedgerPaid_pure : LedgerPaidPure := by
  intro a0 a1 a2 a3 _ _ _ h
  unfold winnowlaw19_LedgerPaid.f
  rw [if_pos (by omega)]
end Go.Proofs.YtponmfnegdlppaaDoor.P
