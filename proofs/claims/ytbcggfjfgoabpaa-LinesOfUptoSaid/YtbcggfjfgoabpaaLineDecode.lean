/- A range over a string and a text's lines: a rune is 10 just where the byte is 10, and a rune's other bytes are no 10. -/
import Derived.Test.YtbcggfjfgoabpaaLinePlain
import Derived.Laws.RangeString
import Derived.Laws.RangeAny
namespace Go.Proofs.Ytbcggfjfgoabpaa.P
open Go.RowKit Go.Proofs.YtbcggfjfgoabpaaW.PrintWords Go.Proofs.YtbcggfjfgoabpaaW.PrintLast
set_option linter.unusedVariables false

theorem decode_inner (s : ByteArray) (pos j : Nat) (h1 : pos < j) (h2 : j < pos + (Utf8.decode s pos).2) : j < s.size ∧ (s.get! j).toNat / 64 = 2 := by
  have key : ∀ k, (decide (pos + k < s.size) && (s.get! (pos + k)).toNat / 64 == 2) = true → pos + k < s.size ∧ (s.get! (pos + k)).toNat / 64 = 2 := by
    intro k hk
    rw [Bool.and_eq_true, decide_eq_true_iff, beq_iff_eq] at hk
    exact hk
  unfold Utf8.decode at h2
  dsimp only at h2
  split at h2
  · omega
  · split at h2
    · rename_i _ hc
      rw [Bool.and_eq_true] at hc
      obtain ⟨c0, c1⟩ := hc
      have k1 := key 1 c1
      split at h2
      · obtain rfl : j = pos + 1 := by simp only at h2; omega
        exact k1
      · simp only at h2; omega
    · split at h2
      · rename_i _ _ hc
        rw [Bool.and_eq_true, Bool.and_eq_true] at hc
        obtain ⟨⟨c0, c1⟩, c2⟩ := hc
        have k1 := key 1 c1
        have k2 := key 2 c2
        split at h2
        · rcases (show j = pos + 1 ∨ j = pos + 2 by simp only at h2; omega) with rfl | rfl
          · exact k1
          · exact k2
        · simp only at h2; omega
      · split at h2
        · rename_i _ _ _ hc
          rw [Bool.and_eq_true, Bool.and_eq_true, Bool.and_eq_true] at hc
          obtain ⟨⟨⟨c0, c1⟩, c2⟩, c3⟩ := hc
          have k1 := key 1 c1
          have k2 := key 2 c2
          have k3 := key 3 c3
          split at h2
          · rcases (show j = pos + 1 ∨ j = pos + 2 ∨ j = pos + 3 by simp only at h2; omega) with rfl | rfl | rfl
            · exact k1
            · exact k2
            · exact k3
          · simp only at h2; omega
        · simp only at h2; omega
theorem bt_byte (t : ByteArray) (i : Nat) (h : i < t.size) : bt t (i : Int) = ((t.get! i).toNat : Int) := by
  unfold bt
  rw [dif_pos (by omega)]
  show ((t.get (i : Int).toNat _).toNat : Int) = _
  simp [ByteArray.get!, ByteArray.get, h]
theorem lnsD_skip (t : ByteArray) (s : Nat) (n : Nat) : ∀ d i, i + d = t.size → n ≤ d → (∀ j, i ≤ j → j < i + n → bt t (j : Int) ≠ 10) → lnsD t d s i = lnsD t (d - n) s (i + n) := by
  induction n with
  | zero => intro d i _ _ _; rfl
  | succ n ih =>
    intro d i hi hn hb
    obtain ⟨d, rfl⟩ : ∃ m, d = m + 1 := ⟨d - 1, by omega⟩
    rw [lnsD, if_neg (hb i (Nat.le_refl _) (by omega)), ih d (i + 1) (by omega) (by omega) (fun j h1 h2 => hb j (by omega) (by omega))]
    rw [show d + 1 - (n + 1) = d - n by omega, show i + 1 + n = i + (n + 1) by omega]
theorem get_getElem (t : ByteArray) (i : Nat) (h : i < t.size) : t.get! i = t[i] := by
  simp [ByteArray.get!, getElem!_pos, h]
  rfl
/-- One step of the range, where no line ends. -/
theorem lns_round (t : ByteArray) (s pos : Nat) (h : pos < t.size) (h10 : bt t (pos : Int) ≠ 10) :
    1 ≤ (Utf8.decode t pos).2 ∧ pos + (Utf8.decode t pos).2 ≤ t.size ∧ (Utf8.decode t pos).1 ≠ 10 ∧ lnsD t (t.size - pos) s pos = lnsD t (t.size - (pos + (Utf8.decode t pos).2)) s (pos + (Utf8.decode t pos).2) := by
  have hb := bt_byte t pos h
  rw [get_getElem t pos h] at hb
  have hw : 1 ≤ (Utf8.decode t pos).2 ∧ (Utf8.decode t pos).1 ≠ 10 := by
    by_cases ha : (t[pos]'h).toNat < 128
    · rw [decode_ascii t pos h ha]
      exact ⟨Nat.le_refl _, fun e => h10 (by rw [hb]; simp only at e; omega)⟩
    · have := decode_high t pos h (by omega)
      exact ⟨this.2, by omega⟩
  have hend : pos + (Utf8.decode t pos).2 ≤ t.size := by
    rcases Nat.lt_or_ge 1 (Utf8.decode t pos).2 with h2 | h2
    · have := (decode_inner t pos (pos + (Utf8.decode t pos).2 - 1) (by omega) (by omega)).1
      omega
    · omega
  refine ⟨hw.1, hend, hw.2, ?_⟩
  rw [lnsD_skip t s (Utf8.decode t pos).2 (t.size - pos) pos (by omega) (by omega) (fun j h1 h2 => ?_)]
  · rw [show t.size - pos - (Utf8.decode t pos).2 = t.size - (pos + (Utf8.decode t pos).2) by omega]
  · rcases Nat.eq_or_lt_of_le h1 with e | e
    · rw [← e]; exact h10
    · obtain ⟨q1, q2⟩ := decode_inner t pos j e h2
      rw [bt_byte t j q1]
      omega
/-- One step of the range, at a line's end. -/
theorem lns_round10 (t : ByteArray) (s pos : Nat) (h : pos < t.size) (h10 : bt t (pos : Int) = 10) :
    Utf8.decode t pos = (10, 1) ∧ lnsD t (t.size - pos) s pos = (s, pos) :: lnsD t (t.size - (pos + 1)) (pos + 1) (pos + 1) := by
  have hb := bt_byte t pos h
  rw [get_getElem t pos h, h10] at hb
  have e : (t[pos]'h).toNat = 10 := by omega
  refine ⟨by rw [decode_ascii t pos h (by omega), e], ?_⟩
  obtain ⟨d, hd⟩ : ∃ d, t.size - pos = d + 1 := ⟨t.size - pos - 1, by omega⟩
  rw [hd, lnsD, if_pos h10, show t.size - (pos + 1) = d by omega]
end Go.Proofs.Ytbcggfjfgoabpaa.P
