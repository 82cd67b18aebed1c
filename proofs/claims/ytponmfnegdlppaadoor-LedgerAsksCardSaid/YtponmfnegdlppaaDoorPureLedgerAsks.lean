import Derived.Test.YtponmfnegdlppaaDoorSLedgerAsks
namespace Go.Proofs.YtponmfnegdlppaaDoor.P
open Go.RowKit

theorem wf_in {x : Int} (h : (Lit.int .i64 x).wf = true) : -9223372036854775808 ≤ x ∧ x ≤ 9223372036854775807 := by simpa [Lit.wf, IntKind.min, IntKind.max, IntKind.signed, IntKind.bits] using h
theorem LedgerAsks_pure : LedgerAsksPure := by
  intro a0 h0
  unfold winnowlaw19_LedgerAsks.f
  have hb := h0
  unfold ok24 at hb
  refine if_pos ⟨⟨by have := hb.2.1.2.1; omega, by have := hb.2.2.1.2.1; omega⟩, List.all_eq_true.2 (fun s m => ?_)⟩
  have q := hb.2.2.1.2.2 s m
  unfold ok38 at q
  have := wf_in q.2.1
  unfold inI
  simp only [Bool.and_eq_true, decide_eq_true_eq]
  exact this

end Go.Proofs.YtponmfnegdlppaaDoor.P
