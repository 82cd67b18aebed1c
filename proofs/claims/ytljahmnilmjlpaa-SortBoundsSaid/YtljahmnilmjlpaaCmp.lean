/- nums.Compare is the order of bytes: -1, 0 or 1, for strings of any size that may come in. -/
import Derived.Test.YtljahmnilmjlpaaPf31
namespace Go.Proofs.Ytljahmnilmjlpaa.P
open Go.RowKit Go.Proofs.YtljahmnilmjlpaaW.PrintWords Go.Proofs.YtljahmnilmjlpaaW.PrintLast

/-- The order of two lists of bytes, as a number. -/
def cmpL (a b : List UInt8) : Int := if Op.bytesLess a b = true then -1 else if Op.bytesLess b a = true then 1 else 0
theorem u8lt (x y : UInt8) : x < y ↔ x.toNat < y.toNat := UInt8.lt_iff_toNat_lt
theorem cmpL_cons (x y : UInt8) (a b : List UInt8) : cmpL (x :: a) (y :: b) = if (x.toNat : Int) < y.toNat then -1 else if (x.toNat : Int) > y.toNat then 1 else cmpL a b := by
  unfold cmpL
  simp only [Op.bytesLess]
  rcases Nat.lt_trichotomy x.toNat y.toNat with h | h | h
  · have h1 : x < y := (u8lt x y).2 h
    rw [if_pos (show (x.toNat : Int) < y.toNat by omega)]
    simp [h1]
  · have h1 : x = y := UInt8.toNat_inj.1 h
    subst h1
    have h2 : ¬ x < x := fun h' => by have := (u8lt _ _).1 h'; omega
    rw [if_neg (by omega), if_neg (by omega)]
    simp [h2]
  · have h1 : y < x := (u8lt y x).2 h
    have h2 : ¬ x < y := fun h' => by have := (u8lt _ _).1 h'; omega
    have h3 : ¬ x = y := fun h' => by subst h'; omega
    rw [if_neg (by omega), if_pos (show (x.toNat : Int) > y.toNat by omega)]
    simp [h1, h2, h3]
theorem cmpL_nil_left (b : List UInt8) : cmpL [] b = if b.length = 0 then 0 else -1 := by
  cases b <;> simp [cmpL, Op.bytesLess]
theorem cmpL_nil_right (a : List UInt8) : cmpL a [] = if a.length = 0 then 0 else 1 := by
  cases a <;> simp [cmpL, Op.bytesLess]
theorem bt_get (s : ByteArray) (i : Nat) (h : i < s.size) : bt s i = (s.data.toList[i]'(by simpa using h)).toNat := by
  unfold bt
  rw [dif_pos (by simpa using h)]
  rfl
theorem drop_cons (s : ByteArray) (i : Nat) (h : i < s.size) : s.data.toList.drop i = (s.data.toList[i]'(by simpa using h)) :: s.data.toList.drop (i + 1) :=
  List.drop_eq_getElem_cons (by simpa using h)

theorem nums_Compare_loop (a b : ByteArray) (ha : a.size ≤ 9223372036854775806) (d : Nat) : ∀ (k i : Nat), i + d = min a.size b.size → d < k →
    nums_Compare.l0 k a b (mn (a.size : Int) (b.size : Int)) i = some (cmpL (a.data.toList.drop i) (b.data.toList.drop i)) := by
  have hm : mn (a.size : Int) (b.size : Int) = ((min a.size b.size : Nat) : Int) := by unfold mn; split <;> omega
  rw [hm]
  induction d with
  | zero =>
    intro k i hi hk
    obtain ⟨k, rfl⟩ : ∃ m, k = m + 1 := ⟨k - 1, by omega⟩
    simp only [nums_Compare.l0]
    rw [if_neg (by omega)]
    rcases Nat.lt_trichotomy a.size b.size with h | h | h
    · rw [if_pos (by omega)]
      rw [List.drop_of_length_le (l := a.data.toList) (by simp; omega), cmpL_nil_left, if_neg (by simp; omega)]
    · rw [if_neg (by omega), if_neg (by omega)]
      rw [List.drop_of_length_le (l := a.data.toList) (by simp; omega), cmpL_nil_left, if_pos (by simp; omega)]
    · rw [if_neg (by omega), if_pos (by omega)]
      rw [List.drop_of_length_le (l := b.data.toList) (by simp; omega), cmpL_nil_right, if_neg (by simp; omega)]
  | succ d ih =>
    intro k i hi hk
    obtain ⟨k, rfl⟩ : ∃ m, k = m + 1 := ⟨k - 1, by omega⟩
    have h1 : i < a.size := by omega
    have h2 : i < b.size := by omega
    simp only [nums_Compare.l0]
    rw [if_pos (by omega), if_pos (by omega), if_pos (by omega), if_pos (by omega), bt_get a i h1, bt_get b i h2, drop_cons a i h1, drop_cons b i h2, cmpL_cons]
    have hw : wrap64 ((i : Int) + 1) = ((i + 1 : Nat) : Int) := by unfold wrap64; omega
    rw [hw, ih k (i + 1) (by omega) (by omega)]
    repeat' split
    all_goals first | rfl | omega

theorem nums_Compare_eq (a b : ByteArray) (ha : a.size ≤ 9223372036854775806) (k : Nat) (hk : a.size < k) : nums_Compare.f k a b = some (cmpL a.toList b.toList) := by
  unfold nums_Compare.f
  have := nums_Compare_loop a b ha (min a.size b.size) k 0 (by omega) (by omega)
  rw [ByteArray.toList_eq, ByteArray.toList_eq]
  simpa using this
end Go.Proofs.Ytljahmnilmjlpaa.P
