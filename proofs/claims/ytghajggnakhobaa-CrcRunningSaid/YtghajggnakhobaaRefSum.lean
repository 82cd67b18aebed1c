/- The document's own sum of bytes is the same number as the program's. -/
import Derived.Test.YtghajggnakhobaaHExtend
import Derived.Test.YtghajggnakhobaaPf19
import Derived.Test.YtghajggnakhobaaPf18
namespace Go.Proofs.Ytghajggnakhobaa.P
open Go.RowKit Go.Proofs.YtghajggnakhobaaW.PrintWords Go.Proofs.YtghajggnakhobaaW.PrintLast Go.Proofs.Ytghajggnakhobaa.Hand
set_option linter.unusedVariables false

theorem M_eq (x : Nat) (hx : x < 2 ^ 32) : winnowref1_M.f (x : Int) = some ((Crc.step x : Nat) : Int) := by
  unfold winnowref1_M.f Crc.step
  rw [show Int.tmod (x : Int) 2 = ((x % 2 : Nat) : Int) from rfl]
  rcases Nat.mod_two_eq_zero_or_one x with h | h
  · rw [h, if_neg (by decide), if_neg (by decide)]; simp
  · rw [h, if_pos (by decide), if_pos (by decide)]
    have := b_xor (x / 2) Crc.poly (by omega) Crc.poly_lt
    rw [show ((x / 2 : Nat) : Int) = (x : Int) / 2 from by simp] at this
    rw [← this]
    rfl
theorem ref_inner (l : List Int) (i : Int) (d : Nat) : ∀ (k X j : Nat), X < 2 ^ 32 → j + d = 8 → winnowref1_Extend.l1 (k + d + 1) l (X : Int) i (j : Int) = winnowref1_Extend.l0 k l ((Crc.pw Crc.step d X : Nat) : Int) (wrap64 (i + 1)) := by
  induction d with
  | zero =>
    intro k X j hX hj
    obtain rfl : j = 8 := by omega
    rw [winnowref1_Extend.l1, if_neg (by decide)]
    rfl
  | succ d ih =>
    intro k X j hX hj
    have hw : wrap64 ((j : Int) + 1) = ((j + 1 : Nat) : Int) := by unfold wrap64; omega
    rw [winnowref1_Extend.l1, if_pos (by omega), M_eq X hX, Option.bind_some, hw, show k + (d + 1) = k + d + 1 from rfl, ih k (Crc.step X) (j + 1) (Crc.step_lt hX) (by omega), ← Crc.pw_succ']
theorem n32_mod (z : Int) : n32 (z % 4294967296) = n32 z := by unfold n32; omega
theorem ref_loop (s : Int) (l : List Int) (hl : l.length ≤ 9223372036854775806) (d : Nat) : ∀ (K i : Nat), i + d = l.length → 10 * d < K → winnowref1_Extend.l0 K l (reg s l i : Int) (i : Int) = some (extI s l) := by
  induction d with
  | zero =>
    intro K i hi hK
    obtain ⟨K, rfl⟩ : ∃ q, K = q + 1 := ⟨K - 1, by omega⟩
    obtain rfl : i = l.length := by omega
    rw [winnowref1_Extend.l0, if_neg (by omega), bits_xor_any, n32_nat _ (reg_lt _ _ _), show n32 IntKind.u32.max = Crc.mask from by decide, Nat.xor_comm]
    unfold extI Crc.ext reg
    rw [List.take_length]
  | succ d ih =>
    intro K i hi hK
    obtain ⟨K, rfl⟩ : ∃ q, K = (q + 8 + 1) + 1 := ⟨K - 10, by omega⟩
    have hw : wrap64 ((i : Int) + 1) = ((i + 1 : Nat) : Int) := by unfold wrap64; omega
    have hX := reg_lt s l i
    rw [winnowref1_Extend.l0, if_pos (by omega), if_pos (Int.natCast_nonneg i), bits_xor_any, n32_nat _ hX, n32_mod,
      show (0 : Int) = ((0 : Nat) : Int) from rfl, ref_inner l i 8 K _ 0 (Nat.xor_lt_two_pow hX (n32_lt _)) rfl, hw]
    have := reg_succ s l i (by omega)
    unfold Crc.byte at this
    rw [← this]
    exact ih K (i + 1) (by omega) (by omega)
theorem RefExtend_eq (s : Int) (l : List Int) (hl : l.length ≤ 9223372036854775806) (K : Nat) (hK : 10 * l.length < K) : winnowref1_Extend.f K s l = some (extI s l) := by
  unfold winnowref1_Extend.f
  have := ref_loop s l hl l.length K 0 (by omega) hK
  have h0 : Go.bits .xor .u32 IntKind.u32.max s = ((reg s l 0 : Nat) : Int) := by rw [bits_xor_any, show n32 IntKind.u32.max = Crc.mask from by decide, Nat.xor_comm]; rfl
  rw [h0]
  exact this
theorem RefSum_eq (l : List Int) (hl : l.length ≤ 9223372036854775806) (K : Nat) (hK : 10 * l.length < K) : winnowref1_Sum.f K l = some (extI 0 l) := by
  unfold winnowref1_Sum.f
  rw [RefExtend_eq 0 l hl K hK, Option.bind_some]
end Go.Proofs.Ytghajggnakhobaa.P
