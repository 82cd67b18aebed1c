/- The runs of a list: what bottom-up merging holds between its rounds. -/
import Derived.Test.YtljahmnilmjlpaaSortOrder
namespace Go.Proofs.Ytljahmnilmjlpaa.P
set_option linter.unusedVariables false
namespace St
variable {α : Type} {le : α → α → Bool}
/-- every run of w of F is the sort of that run of l -/
def Runs (le : α → α → Bool) (w : Nat) (l F : List α) : Prop := F.length = l.length ∧ ∀ j, (F.drop (j * w)).take w = isort le ((l.drop (j * w)).take w)
theorem Runs.one (l : List α) : Runs le 1 l l := by
  refine ⟨rfl, fun j => ?_⟩
  rw [Nat.mul_one]
  rcases Nat.lt_or_ge j l.length with h | h
  · rw [List.drop_eq_getElem_cons h]
    exact (isort_one _).symm
  · rw [List.drop_of_length_le h]
    rfl
theorem Runs.whole {w : Nat} {l F : List α} (h : Runs le w l F) (hw : l.length ≤ w) : F = isort le l := by
  have h0 := h.2 0
  rw [Nat.zero_mul, List.drop_zero, List.drop_zero, List.take_of_length_le (by rw [h.1]; exact hw), List.take_of_length_le hw] at h0
  exact h0
/-- the runs of w + w, ahead of the m-th -/
def RunsTo (le : α → α → Bool) (w m : Nat) (l Z : List α) : Prop := Z.length = l.length ∧ ∀ j, j < m → (Z.drop (j * w)).take w = isort le ((l.drop (j * w)).take w)
theorem RunsTo.zero (w : Nat) (l Z : List α) (h : Z.length = l.length) : RunsTo le w 0 l Z := ⟨h, fun j hj => absurd hj (Nat.not_lt_zero j)⟩
theorem RunsTo.runs {w m : Nat} {l Z : List α} (h : RunsTo le w m l Z) (hm : l.length ≤ m * w) : Runs le w l Z := by
  refine ⟨h.1, fun j => ?_⟩
  rcases Nat.lt_or_ge j m with hj | hj
  · exact h.2 j hj
  · have : m * w ≤ j * w := Nat.mul_le_mul_right w hj
    rw [List.drop_of_length_le (by rw [h.1]; omega), List.drop_of_length_le (by omega), List.take_nil]
    rfl
theorem two_takes (l : List α) (a w : Nat) : (l.drop a).take w ++ (l.drop (a + w)).take w = (l.drop a).take (w + w) := by
  rw [List.take_add, List.drop_drop]
/-- One more run of w + w is laid. -/
theorem RunsTo.next (o : Order le) {w m a mid e : Nat} {l F Z zs : List α} (hF : Runs le w l F) (h : RunsTo le (w + w) m l Z) (ha : a = m * (w + w)) (hal : a < l.length) (hmid : mid = min (a + w) l.length) (he : e = min (a + (w + w)) l.length)
    (hz : zs.length = l.length) (ht : zs.take e = Z.take a ++ merge le ((F.drop a).take (mid - a)) ((F.drop mid).take (e - mid))) : RunsTo le (w + w) (m + 1) l zs := by
  have hA : (F.drop a).take (mid - a) = isort le ((l.drop a).take w) := by
    have := hF.2 (m + m)
    rw [show (m + m) * w = a from by rw [ha, Nat.add_mul, Nat.mul_add]] at this
    rw [← this]
    rcases Nat.le_total (a + w) l.length with h1 | h1
    · rw [show mid - a = w by omega]
    · rw [List.take_of_length_le (by rw [List.length_drop, hF.1]; omega), List.take_of_length_le (by rw [List.length_drop, hF.1]; omega)]
  have hB : (F.drop mid).take (e - mid) = isort le ((l.drop (a + w)).take w) := by
    rcases Nat.le_total (a + w) l.length with h1 | h1
    · have := hF.2 (m + m + 1)
      rw [show (m + m + 1) * w = a + w from by rw [ha, Nat.add_mul, Nat.add_mul, Nat.mul_add, Nat.one_mul]] at this
      rw [show mid = a + w by omega, ← this]
      rcases Nat.le_total (a + (w + w)) l.length with h2 | h2
      · rw [show e - (a + w) = w by omega]
      · rw [List.take_of_length_le (by rw [List.length_drop, hF.1]; omega), List.take_of_length_le (by rw [List.length_drop, hF.1]; omega)]
    · rw [show e - mid = 0 by omega, List.take_zero, List.drop_of_length_le h1, List.take_nil]
      rfl
  rw [hA, hB, merge_isort o, two_takes] at ht
  refine ⟨hz, fun j hj => ?_⟩
  rcases Nat.lt_or_ge j m with hj' | hj'
  · rw [← h.2 j hj']
    have h3 : (j + 1) * (w + w) ≤ m * (w + w) := Nat.mul_le_mul_right _ hj'
    rw [Nat.succ_mul] at h3
    have hle : a ≤ e := by omega
    have e1 : zs.take a = Z.take a := by
      have := congrArg (List.take a) ht
      rw [List.take_take, Nat.min_eq_left hle, List.take_append_of_le_length (by rw [List.length_take, h.1]; omega), List.take_take, Nat.min_self] at this
      exact this
    have e2 : ∀ L : List α, (L.drop (j * (w + w))).take (w + w) = ((L.take a).drop (j * (w + w))).take (w + w) := by
      intro L
      rw [List.drop_take, List.take_take, Nat.min_eq_left (by omega)]
    rw [e2 zs, e2 Z, e1]
  · obtain rfl : j = m := by omega
    rw [← ha]
    have e3 := congrArg (List.drop a) ht
    rw [List.drop_append_of_le_length (by rw [List.length_take, h.1]; omega), List.drop_of_length_le (l := Z.take a) (by rw [List.length_take]; omega), List.nil_append, List.drop_take] at e3
    rw [← e3]
    rcases Nat.le_total (a + (w + w)) l.length with h2 | h2
    · rw [show e - a = w + w by omega]
    · rw [List.take_of_length_le (by rw [List.length_drop, hz]; omega), List.take_of_length_le (by rw [List.length_drop, hz]; omega)]
end St
end Go.Proofs.Ytljahmnilmjlpaa.P
