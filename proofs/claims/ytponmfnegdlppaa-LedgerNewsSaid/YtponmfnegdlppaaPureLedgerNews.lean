import Derived.Test.YtponmfnegdlppaaSLedgerNews
namespace Go.Proofs.Ytponmfnegdlppaa.P

theorem LedgerNews_pure : LedgerNewsPure := fun _ _ _ _ _ _ => rfl

end Go.Proofs.Ytponmfnegdlppaa.P
