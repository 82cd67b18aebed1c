/- Zeros are no tile, but four of them: up to 4999. No conditions but the row's own. -/
import Derived.Test.YtghajggnakhobaaSCrcZeros
import Derived.Test.YtghajggnakhobaaPlain
namespace Go.Proofs.Ytghajggnakhobaa.P
open Go.RowKit Go.Proofs.YtghajggnakhobaaW.PrintWords Go.Proofs.YtghajggnakhobaaW.PrintLast Go.Proofs.Ytghajggnakhobaa.Hand

def zchk : Nat → Nat → Bool
  | 0, _ => true
  | n + 1, x => let y := Crc.pw Crc.step 8 x; (!Nat.beq y Crc.mask) && zchk n y
theorem zchk_ok : zchk 4995 Crc.mask = true := by decide +kernel
theorem zchk_at (n : Nat) : ∀ (x i : Nat), zchk n x = true → 1 ≤ i → i ≤ n → Crc.pw Crc.step (8 * i) x ≠ Crc.mask := by
  induction n with
  | zero => intro x i _ h1 h2; omega
  | succ n ih =>
    intro x i h h1 h2
    simp only [zchk, Bool.and_eq_true, Bool.not_eq_true'] at h
    by_cases hi : i = 1
    · subst hi
      exact fun e => by
        have := h.1
        rw [show 8 * 1 = 8 from rfl] at e
        rw [e, Nat.beq_refl] at this
        exact absurd this (by decide)
    · have := ih (Crc.pw Crc.step 8 x) (i - 1) h.2 (by omega) (by omega)
      rw [pw_pw, show 8 * (i - 1) + 8 = 8 * i from by omega] at this
      exact this
theorem run_zeros (x n : Nat) : Crc.run x (List.replicate n 0) = Crc.pw Crc.step (8 * n) x := by
  induction n generalizing x with
  | zero => rfl
  | succ n ih =>
    rw [List.replicate_succ, Crc.run_cons, ih]
    unfold Crc.byte
    rw [Nat.xor_zero, pw_pw, show 8 * n + 8 = 8 * (n + 1) from by omega]
theorem ext_zeros (n : Nat) : extI 0 (List.replicate n 0) = ((Crc.pw Crc.step (8 * n) Crc.mask ^^^ Crc.mask : Nat) : Int) := by
  unfold extI Crc.ext
  rw [List.map_replicate, show n32 0 = 0 from by decide, run_zeros, Nat.zero_xor]
theorem four_zero (s : Int) (h0 : 0 ≤ s) (h1 : s < 4294967296) (h : four s = [0, 0, 0, 0]) : s = 0 := by
  simp only [four, List.cons.injEq, and_true] at h
  omega
theorem R8_zeros (n : Nat) : R8 (List.replicate n 0) := fun x hx => by rw [List.eq_of_mem_replicate hx]; omega

theorem zeros_j0 (x : Nat) (hx : x < 5000) : winnowlaw1_CrcZeros.j0 1 (x : Int) = some true := by
  simp only [winnowlaw1_CrcZeros.j0]
  rw [if_pos (Int.natCast_nonneg x), if_pos (by omega), Int.toNat_natCast]
  by_cases h4 : x < 4
  · rw [Open_short _ (by simp; omega)]
    simp only [Option.bind_some]
    rw [if_neg (by omega), if_neg (by decide)]
    rfl
  · obtain ⟨n, rfl⟩ : ∃ n, x = n + 4 := ⟨x - 4, by omega⟩
    rw [Open_eq _ n (by simp) (by omega) (R8_zeros _), List.take_replicate, List.drop_replicate, show min n (n + 4) = n from by omega, show n + 4 - n = 4 from by omega]
    by_cases hn : n = 0
    · subst hn
      rw [if_pos (by decide)]
      simp only [Option.bind_some]
      simp [winnowlaw1_works.f]
    · have hne : ¬ four (extI 0 (List.replicate n 0)) = List.replicate 4 0 := by
        intro h
        have h1 := four_zero _ (extI_range 0 _).1 (extI_range 0 _).2 h
        rw [ext_zeros] at h1
        have h2 : Crc.pw Crc.step (8 * n) Crc.mask ^^^ Crc.mask = 0 := by omega
        have h3 := congrArg (· ^^^ Crc.mask) h2
        simp only [Crc.xx, Nat.zero_xor] at h3
        exact zchk_at 4995 _ n zchk_ok (by omega) (by omega) h3
      rw [if_neg hne]
      simp only [Option.bind_some]
      rw [if_neg (by omega), if_neg (by decide)]
      rfl

theorem CrcZeros_pure : CrcZerosPure := by
  intro a ha
  have ra := wf64 ha
  refine ⟨1, ?_⟩
  unfold winnowlaw1_CrcZeros.f
  have hb := Int.tmod_lt_of_pos a (show (0 : Int) < 5000 by decide)
  have hb2 : -5000 < Int.tmod a 5000 := by
    have := Int.lt_tmod_of_pos a (show (0 : Int) < 5000 by decide)
    omega
  generalize Int.tmod a 5000 = m at hb hb2
  by_cases h : m < 0
  · rw [if_pos h, show wrap64 (-m) = -m from by unfold wrap64; omega]
    obtain ⟨x, hx⟩ := Int.eq_ofNat_of_zero_le (show 0 ≤ -m by omega)
    rw [hx]
    exact zeros_j0 x (by omega)
  · rw [if_neg h]
    obtain ⟨x, rfl⟩ := Int.eq_ofNat_of_zero_le (show 0 ≤ m by omega)
    exact zeros_j0 x (by omega)
end Go.Proofs.Ytghajggnakhobaa.P
