/- Joining in either way, of any numbers and lengths: the same. No conditions but the row's own. -/
import Derived.Test.YtghajggnakhobaaSCrcFar
import Derived.Test.YtghajggnakhobaaPlain
namespace Go.Proofs.Ytghajggnakhobaa.P
open Go.RowKit Go.Proofs.YtghajggnakhobaaW.PrintWords Go.Proofs.YtghajggnakhobaaW.PrintLast Go.Proofs.Ytghajggnakhobaa.Hand

theorem works_eq : winnowlaw1_works.f = some true := rfl
theorem CrcFar_pure : CrcFarPure := by
  intro a b c m n ha hb hc hm hn
  have ra := wf32 ha
  have rb := wf32 hb
  have rc := wf32 hc
  have rm := wf64 hm
  have rn := wf64 hn
  refine ⟨162, ?_⟩
  obtain ⟨a, rfl⟩ := Int.eq_ofNat_of_zero_le ra.1
  obtain ⟨b, rfl⟩ := Int.eq_ofNat_of_zero_le rb.1
  obtain ⟨c, rfl⟩ := Int.eq_ofNat_of_zero_le rc.1
  have ra' : a < 2 ^ 32 := by omega
  have rb' : b < 2 ^ 32 := by omega
  have rc' : c < 2 ^ 32 := by omega
  have yes : ∀ a b c m n : Int, winnowlaw1_CrcFar.j0 162 a b c m n true = some true := by
    intro a b c m n
    simp only [winnowlaw1_CrcFar.j0, works_eq, Option.bind_some, if_true]
  unfold winnowlaw1_CrcFar.f
  by_cases h1 : m < 0
  · rw [if_pos h1, yes]
  rw [if_neg h1]
  by_cases h2 : n < 0
  · rw [if_pos h2, yes]
  rw [if_neg h2]
  by_cases h3 : m > 2305843009213693952
  · rw [if_pos h3, yes]
  rw [if_neg h3]
  by_cases h4 : n > 2305843009213693952
  · rw [decide_eq_true h4, yes]
  rw [decide_eq_false h4]
  obtain ⟨m, rfl⟩ := Int.eq_ofNat_of_zero_le (show 0 ≤ m by omega)
  obtain ⟨n, rfl⟩ := Int.eq_ofNat_of_zero_le (show 0 ≤ n by omega)
  have hw : wrap64 ((m : Int) + n) = ((m + n : Nat) : Int) := by unfold wrap64; omega
  have e1 := Join_eq a b (m : Int) ra' rb' (by omega) 161 (by decide)
  rw [Int.toNat_natCast] at e1
  have e2 := Join_eq (joinN a b m) c (n : Int) (joinN_lt a b m ra' rb') rc' (by omega) 161 (by decide)
  rw [Int.toNat_natCast] at e2
  have e3 := Join_eq b c (n : Int) rb' rc' (by omega) 161 (by decide)
  rw [Int.toNat_natCast] at e3
  have e4 := Join_eq a (joinN b c n) ((m + n : Nat) : Int) ra' (joinN_lt b c n rb' rc') (by omega) 161 (by decide)
  rw [Int.toNat_natCast] at e4
  simp only [winnowlaw1_CrcFar.j0, works_eq, Option.bind_some, if_true, e1, e2, e3, hw, e4, joinN_assoc, beq_self_eq_true]
  rfl
end Go.Proofs.Ytghajggnakhobaa.P
