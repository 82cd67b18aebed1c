/- There and back: Open of Seal; Seal of what Open told. No conditions but the row's own. -/
import Derived.Test.YtghajggnakhobaaSCrcRound
import Derived.Test.YtghajggnakhobaaPlain
namespace Go.Proofs.Ytghajggnakhobaa.P
open Go.RowKit Go.Proofs.YtghajggnakhobaaW.PrintWords Go.Proofs.YtghajggnakhobaaW.PrintLast Go.Proofs.Ytghajggnakhobaa.Hand

theorem R8_append {a b : List Int} (ha : R8 a) (hb : R8 b) : R8 (a ++ b) := fun x hx => by
  rcases List.mem_append.1 hx with h | h
  · exact ha x h
  · exact hb x h
theorem Open_Seal (l : List Int) (hl : l.length + 4 < 140737488355328) (hR : R8 l) : crc_Open.f (l ++ four (extI 0 l)) = some (l, 0) := by
  rw [Open_eq _ l.length (by simp [four_length]) (by omega) (R8_append hR (four_R8 _)), List.take_left, List.drop_left, if_pos rfl]
theorem R8_of {l : List Int} (h : ∀ x ∈ l, (Lit.int .u8 x).wf = true) : R8 l := fun x hx => wf8 (h x hx)

theorem CrcRound_pure : CrcRoundPure := by
  intro b t hb ht
  obtain ⟨-, hb1, hb2⟩ := hb
  obtain ⟨-, ht1, ht2⟩ := ht
  have Rb := R8_of hb2
  have Rt := R8_of ht2
  have nb : b.length + 4 < 140737488355328 := by omega
  have nt : t.length + 4 < 140737488355328 := by omega
  obtain ⟨K, hK1, hK2⟩ : ∃ K, b.length < K ∧ t.length < K := ⟨b.length + t.length + 1, by omega, by omega⟩
  have mb : b.length ≤ 9223372036854775806 := by omega
  have mt : t.length ≤ 9223372036854775806 := by omega
  refine ⟨K + 1, ?_⟩
  unfold winnowlaw1_CrcRound.f
  rw [Seal_eq b nb, Option.bind_some, Open_Seal b nb Rb, Option.bind_some]
  dsimp only
  rw [if_pos rfl, same_eq (K + 1) b b mb (by omega), Option.bind_some, decide_eq_true (rfl : b = b), if_pos rfl, Option.bind_some]
  have hw : wrap64 ((b.length : Int) + 4) = ((b ++ four (extI 0 b)).length : Int) := by
    rw [List.length_append, four_length]; unfold wrap64; omega
  rw [hw, bne_self_eq_false, winnowlaw1_CrcRound.j0, if_neg (by decide)]
  have hwk : winnowlaw1_works.f = some true := rfl
  by_cases h4 : t.length < 4
  · rw [Open_short t h4, Option.bind_some]
    dsimp only
    rw [if_neg (by decide), hwk, Option.bind_some, if_pos rfl, List.length_nil, if_pos (show ((0 : Nat) : Int) = 0 from rfl), decide_eq_true (show (t.length : Int) < 4 by omega)]
    rfl
  · obtain ⟨n, hn⟩ : ∃ n, t.length = n + 4 := ⟨t.length - 4, by omega⟩
    rw [Open_eq t n hn (by omega) Rt]
    by_cases he : four (extI 0 (t.take n)) = t.drop n
    · rw [if_pos he, Option.bind_some]
      dsimp only
      rw [if_pos rfl, Seal_eq (t.take n) (by rw [List.length_take]; omega), he, List.take_append_drop, Option.bind_some, same_eq K t t mt hK2, Option.bind_some, decide_eq_true (rfl : t = t)]
    · rw [if_neg he, Option.bind_some]
      dsimp only
      rw [if_neg (by decide), hwk, Option.bind_some, if_pos rfl, List.length_nil, if_pos (show ((0 : Nat) : Int) = 0 from rfl), decide_eq_false (show ¬ (t.length : Int) < 4 by omega)]
      rfl
end Go.Proofs.Ytghajggnakhobaa.P
