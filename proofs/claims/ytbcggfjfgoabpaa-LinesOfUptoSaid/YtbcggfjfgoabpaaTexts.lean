/- Texts' lists: spoilt, sameTexts, in plain lists. -/
import Derived.Test.YtbcggfjfgoabpaaPf13
import Derived.Test.YtbcggfjfgoabpaaPf16
namespace Go.Proofs.Ytbcggfjfgoabpaa.P
open Go.RowKit Go.Proofs.YtbcggfjfgoabpaaW.PrintWords Go.Proofs.YtbcggfjfgoabpaaW.PrintLast
set_option linter.unusedVariables false

theorem wrapT (i : Nat) (h : i ≤ 140737488355328) : wrap64 ((i : Int) + 1) = ((i + 1 : Nat) : Int) := by unfold wrap64; omega
theorem spoilt_l1 (d : Nat) : ∀ (k i : Nat) (g : List ByteArray), i + d = 64 → g.length + d ≤ 8796093022207 → d < k → winnowlaw13_spoilt.l1 k g (i : Int) = some ((g.length + d : Nat) : Int) := by
  induction d with
  | zero =>
    intro k i g hi hg hk
    obtain ⟨k, rfl⟩ : ∃ m, k = m + 1 := ⟨k - 1, by omega⟩
    rw [winnowlaw13_spoilt.l1, if_neg (by omega), Nat.add_zero]
  | succ d ih =>
    intro k i g hi hg hk
    obtain ⟨k, rfl⟩ : ∃ m, k = m + 1 := ⟨k - 1, by omega⟩
    rw [winnowlaw13_spoilt.l1, if_pos (by omega), if_pos (by omega), wrapT i (by omega), ih k (i + 1) _ (by omega) (by rw [List.length_append, List.length_singleton]; omega) (by omega), List.length_append, List.length_singleton]
    congr 2
    omega
theorem spoilt_l0 (n : Nat) (hn : n ≤ 8796093020000) (d : Nat) : ∀ (k i : Nat) (g : List ByteArray), g.length = n → i + d = n → d + 66 < k → winnowlaw13_spoilt.l0 k g (i : Int) = some ((n + 64 : Nat) : Int) := by
  induction d with
  | zero =>
    intro k i g hg hi hk
    obtain ⟨k, rfl⟩ : ∃ m, k = m + 1 := ⟨k - 1, by omega⟩
    rw [winnowlaw13_spoilt.l0, if_neg (by omega)]
    have := spoilt_l1 64 k 0 g rfl (by omega) (by omega)
    rw [hg] at this
    exact this
  | succ d ih =>
    intro k i g hg hi hk
    obtain ⟨k, rfl⟩ : ∃ m, k = m + 1 := ⟨k - 1, by omega⟩
    rw [winnowlaw13_spoilt.l0, if_pos (by omega), if_pos (Int.natCast_nonneg i), wrapT i (by omega)]
    exact ih k (i + 1) _ (by rw [List.length_set]; exact hg) (by omega) (by omega)
theorem spoilt_eq (l : List ByteArray) (hl : l.length ≤ 8796093020000) (k : Nat) (hk : l.length + 66 < k) : winnowlaw13_spoilt.f k l = some ((l.length + 64 : Nat) : Int) := by
  unfold winnowlaw13_spoilt.f
  exact spoilt_l0 l.length hl l.length k 0 l rfl (by omega) (by omega)
theorem rdOf_nat {α : Type} (d : α) (l : List α) (i : Nat) (h : i < l.length) : rdOf d l (i : Int) = l[i] := by
  unfold rdOf
  rw [Int.toNat_natCast, List.getD_eq_getElem?_getD, List.getElem?_eq_getElem h]
  rfl
theorem toList_inj {a b : ByteArray} (h : a.toList = b.toList) : a = b := by
  rw [ByteArray.toList_eq, ByteArray.toList_eq] at h
  cases a; cases b
  simp at h
  simp [h]
theorem sameTexts_loop (a b : List ByteArray) (hl : a.length = b.length) (ha : a.length ≤ 140737488355000) (d : Nat) : ∀ (k i : Nat), i + d = a.length → d < k → winnowlaw13_sameTexts.l0 k a b (i : Int) = some (decide (a.drop i = b.drop i)) := by
  induction d with
  | zero =>
    intro k i hi hk
    obtain ⟨k, rfl⟩ : ∃ m, k = m + 1 := ⟨k - 1, by omega⟩
    rw [winnowlaw13_sameTexts.l0, if_neg (by omega), List.drop_of_length_le (by omega), List.drop_of_length_le (by omega)]
    simp
  | succ d ih =>
    intro k i hi hk
    obtain ⟨k, rfl⟩ : ∃ m, k = m + 1 := ⟨k - 1, by omega⟩
    rw [winnowlaw13_sameTexts.l0, if_pos (by omega), if_pos (Int.natCast_nonneg i), if_pos (by omega), rdOf_nat _ a i (by omega), rdOf_nat _ b i (by omega), wrapT i (by omega), List.drop_eq_getElem_cons (show i < a.length by omega), List.drop_eq_getElem_cons (show i < b.length by omega)]
    by_cases h : a[i].toList = b[i].toList
    · rw [if_pos h, ih k (i + 1) (by omega) (by omega), toList_inj h]
      congr 1
      exact decide_eq_decide.2 ⟨fun e => by rw [e], fun e => (List.cons.inj e).2⟩
    · rw [if_neg h, decide_eq_false (fun e => h (by rw [(List.cons.inj e).1]))]
theorem sameTexts_eq (a b : List ByteArray) (ha : a.length ≤ 140737488355000) (k : Nat) (hk : a.length < k) : winnowlaw13_sameTexts.f k a b = some (decide (a = b)) := by
  unfold winnowlaw13_sameTexts.f
  by_cases h : a.length = b.length
  · rw [if_pos (by omega)]
    have := sameTexts_loop a b h ha a.length k 0 (by omega) hk
    rwa [List.drop_zero, List.drop_zero] at this
  · rw [if_neg (by omega)]
    have : a ≠ b := fun e => h (by rw [e])
    simp [this]
end Go.Proofs.Ytbcggfjfgoabpaa.P
