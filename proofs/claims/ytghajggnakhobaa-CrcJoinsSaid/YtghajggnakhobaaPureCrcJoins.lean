import Derived.Test.YtghajggnakhobaaSCrcJoins
import Derived.Test.YtghajggnakhobaaPlain
namespace Go.Proofs.Ytghajggnakhobaa.P
open Go.RowKit Go.Proofs.YtghajggnakhobaaW.PrintWords Go.Proofs.YtghajggnakhobaaW.PrintLast Go.Proofs.Ytghajggnakhobaa.Hand

theorem CrcJoins_pure : CrcJoinsPure := by
  intro a b n ha hb hn
  have ha := wf32 ha
  have hb := wf32 hb
  have hn := wf64 hn
  obtain ⟨A, rfl⟩ := Int.eq_ofNat_of_zero_le ha.1
  obtain ⟨B, rfl⟩ := Int.eq_ofNat_of_zero_le hb.1
  refine ⟨160, ?_⟩
  unfold winnowlaw1_CrcJoins.f winnowref1_Join.f
  rw [Join_eq A B n (by omega) (by omega) hn.2 160 (Nat.le_refl _), Option.bind_some, if_pos ⟨ha.1, ha.2, hb.1, hb.2, hn.2⟩, Option.bind_some, Int.toNat_natCast, Int.toNat_natCast]
  unfold joinN
  rw [beq_self_eq_true]

end Go.Proofs.Ytghajggnakhobaa.P
