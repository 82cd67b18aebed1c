/- Compare and Cost answer as the document's own do, for any two records. No conditions but the row's own. -/
import Derived.Test.YtljahmnilmjlpaaSSortCompares
import Derived.Test.YtljahmnilmjlpaaCmp
namespace Go.Proofs.Ytljahmnilmjlpaa.P
open Go.RowKit Go.Proofs.YtljahmnilmjlpaaW.PrintWords Go.Proofs.YtljahmnilmjlpaaW.PrintLast

theorem sortbuf_Compare_eq (k : Nat) (x y : S23) (hx : x.f1.size ≤ 140737488351232) (hk : x.f1.size < k) :
    sortbuf_Compare.f k x.f0 x.f1 x.f2 y.f0 y.f1 y.f2 = winnowref10_Compare.f x.f0 x.f1 x.f2 y.f0 y.f1 y.f2 := by
  unfold sortbuf_Compare.f winnowref10_Compare.f
  rw [nums_Compare_eq x.f1 y.f1 (by omega) k hk]
  by_cases h : x.f0 = y.f0
  · rw [if_neg (by omega), if_neg (by omega), if_pos h]
    simp only [Option.bind_some, cmpL]
    split
    · rfl
    · split <;> rfl
  · rw [if_neg h]
    by_cases h2 : x.f0 < y.f0
    · rw [if_pos h2, if_pos h2]
    · rw [if_neg h2, if_pos (by omega), if_neg h2]

theorem ref_Compare_some (x y : S23) : ∃ c, winnowref10_Compare.f x.f0 x.f1 x.f2 y.f0 y.f1 y.f2 = some c := by
  unfold winnowref10_Compare.f
  repeat' split
  all_goals exact ⟨_, rfl⟩

theorem costs (x : S23) : ∃ c, sortbuf_Cost.f x.f0 x.f1 x.f2 = some c ∧ winnowref10_Cost.f x.f0 x.f1 x.f2 = some c := ⟨_, rfl, rfl⟩

theorem SortCompares_pure : SortComparesPure := by
  intro a0 a1 h0 h1
  obtain ⟨_, hs, _⟩ := h0
  refine ⟨a0.f1.size + 1, ?_⟩
  unfold winnowlaw10_SortCompares.f
  rw [sortbuf_Compare_eq (a0.f1.size + 1) a0 a1 hs (Nat.lt_succ_self _)]
  obtain ⟨c, hc⟩ := ref_Compare_some a0 a1
  obtain ⟨d, hd, hd'⟩ := costs a0
  obtain ⟨e, he, he'⟩ := costs a1
  rw [hc, hd, hd', he, he']
  simp only [Option.bind_some, if_true, beq_self_eq_true]
end Go.Proofs.Ytljahmnilmjlpaa.P
