/- What the functions of layer 1 answer, as plain laws over lists of numbers. -/
import Derived.Test.YtghajggnakhobaaHWorks
import Derived.Test.YtghajggnakhobaaPf13
import Derived.Test.YtghajggnakhobaaOpens
namespace Go.Proofs.Ytghajggnakhobaa.P
open Go.RowKit Go.Proofs.YtghajggnakhobaaW.PrintWords Go.Proofs.YtghajggnakhobaaW.PrintLast Go.Proofs.YtghajggnakhobaaW.PrintMore Go.Proofs.Ytghajggnakhobaa.Hand
set_option linter.unusedVariables false

theorem wf8 {x : Int} (h : (Lit.int .u8 x).wf = true) : 0 ≤ x ∧ x ≤ 255 := by simpa [Lit.wf, IntKind.min, IntKind.max, IntKind.signed, IntKind.bits] using h
theorem wf32 {x : Int} (h : (Lit.int .u32 x).wf = true) : 0 ≤ x ∧ x ≤ 4294967295 := by simpa [Lit.wf, IntKind.min, IntKind.max, IntKind.signed, IntKind.bits] using h
theorem wf64 {x : Int} (h : (Lit.int .i64 x).wf = true) : -9223372036854775808 ≤ x ∧ x ≤ 9223372036854775807 := by simpa [Lit.wf, IntKind.min, IntKind.max, IntKind.signed, IntKind.bits] using h

def R8 (l : List Int) : Prop := ∀ x ∈ l, 0 ≤ x ∧ x ≤ 255
def four (s : Int) : List Int := [s % 256, s / 256 % 256, s / 65536 % 256, s / 16777216 % 256]
theorem four_R8 (s : Int) : R8 (four s) := by
  intro x hx
  simp only [four, List.mem_cons, List.not_mem_nil, or_false] at hx
  rcases hx with rfl | rfl | rfl | rfl <;> omega
theorem four_length (s : Int) : (four s).length = 4 := rfl
theorem ext_lt (s : Nat) (l : List Nat) (hs : s < 2 ^ 32) (hl : ∀ c ∈ l, c < 2 ^ 32) : Crc.ext s l < 2 ^ 32 :=
  Nat.xor_lt_two_pow (run_lt _ _ (Nat.xor_lt_two_pow hs mask_lt) hl) mask_lt
theorem n32s_lt (l : List Int) : ∀ c ∈ l.map n32, c < 2 ^ 32 := fun c hc => by obtain ⟨z, _, rfl⟩ := List.mem_map.1 hc; exact n32_lt z
theorem extI_range (s : Int) (l : List Int) : 0 ≤ extI s l ∧ extI s l < 4294967296 := by
  have := ext_lt (n32 s) (l.map n32) (n32_lt s) (n32s_lt l)
  unfold extI
  omega
theorem Sum_eq (l : List Int) : crc_Sum.f l = some (extI 0 l) := rfl
theorem Ext_eq (s : Int) (l : List Int) : crc_Extend.f s l = some (extI s l) := rfl

theorem Seal_eq (l : List Int) (h : l.length + 4 < 140737488355328) : crc_Seal.f l = some (l ++ four (extI 0 l)) := by
  have hw : wrap64 ((l.length : Int) + 4) = (l.length : Int) + 4 := by unfold wrap64; omega
  unfold crc_Seal.f
  rw [hw, if_pos (by omega), if_pos (by omega)]
  simp only [Option.bind_some, List.length_nil, List.nil_append]
  rw [if_pos (by omega), Sum_eq]
  simp only [Option.bind_some, crc_four.f]
  rw [if_pos (by simp; omega)]
  rfl

theorem str_inj {a b : List Int} (ha : R8 a) (hb : R8 b) : (strOfNums a).toList = (strOfNums b).toList ↔ a = b := by
  rw [ByteArray.toList_eq, ByteArray.toList_eq, strOfNums_data, strOfNums_data]
  refine ⟨fun h => ?_, fun h => by rw [h]⟩
  have hl : a.length = b.length := by simpa using congrArg List.length h
  apply List.ext_getElem hl
  intro i h1 h2
  have h3 := congrArg (fun l : List UInt8 => l[i]?) h
  simp only [List.getElem?_map, List.getElem?_eq_getElem h1, List.getElem?_eq_getElem h2, Option.map_some, Option.some.injEq] at h3
  have ra := ha _ (List.getElem_mem h1)
  have rb := hb _ (List.getElem_mem h2)
  have h4 := congrArg UInt8.toNat h3
  simp only [UInt8.toNat_ofNat'] at h4
  omega

theorem Open_short (t : List Int) (h : t.length < 4) : crc_Open.f t = some ([], 11) := by
  have hw : wrap64 ((t.length : Int) - 4) = (t.length : Int) - 4 := by unfold wrap64; omega
  unfold crc_Open.f
  rw [hw, if_pos (by omega)]

theorem Open_eq (t : List Int) (n : Nat) (h : t.length = n + 4) (hs : n < 140737488355328) (hR : R8 t) :
    crc_Open.f t = if four (extI 0 (t.take n)) = t.drop n then some (t.take n, 0) else some ([], 10) := by
  have hw : wrap64 ((t.length : Int) - 4) = (n : Int) := by unfold wrap64; omega
  unfold crc_Open.f
  rw [hw, if_neg (by omega), if_pos (by omega), if_pos (by omega), Int.toNat_natCast, Sum_eq]
  simp only [Option.bind_some, crc_four.f, List.length_nil, List.nil_append]
  have e := str_inj (four_R8 (extI 0 (t.take n))) (b := t.drop n) (fun x hx => hR x (List.mem_of_mem_drop hx))
  by_cases hh : four (extI 0 (t.take n)) = t.drop n
  · rw [if_pos hh]
    have h2 := e.2 hh
    unfold four at h2
    rw [if_pos h2, if_pos (by simp; omega)]
  · rw [if_neg hh]
    have h2 : ¬ _ := fun x => hh (e.1 x)
    unfold four at h2
    rw [if_neg h2]

theorem rd_nat (l : List Int) (i : Nat) (h : i < l.length) : rd l (i : Int) = l[i] := by
  unfold rd
  rw [Int.toNat_natCast, List.getD_eq_getElem?_getD, List.getElem?_eq_getElem h]
  rfl
theorem same_loop (a b : List Int) (hl : a.length = b.length) (hb : a.length ≤ 9223372036854775806) (d : Nat) : ∀ (k i : Nat), i + d = a.length → d < k →
    winnowlaw1_same.l0 k a b i = some (decide (a.drop i = b.drop i)) := by
  induction d with
  | zero =>
    intro k i hi hk
    obtain ⟨k, rfl⟩ : ∃ m, k = m + 1 := ⟨k - 1, by omega⟩
    simp only [winnowlaw1_same.l0]
    rw [if_neg (by omega), List.drop_of_length_le (by omega), List.drop_of_length_le (by omega)]
    simp
  | succ d ih =>
    intro k i hi hk
    obtain ⟨k, rfl⟩ : ∃ m, k = m + 1 := ⟨k - 1, by omega⟩
    have h1 : i < a.length := by omega
    have h2 : i < b.length := by omega
    simp only [winnowlaw1_same.l0]
    have da := List.drop_eq_getElem_cons h1
    have db := List.drop_eq_getElem_cons h2
    rw [if_pos (by omega), if_pos (by omega), if_pos (by omega), rd_nat a i h1, rd_nat b i h2, da, db]
    have hw : wrap64 ((i : Int) + 1) = ((i + 1 : Nat) : Int) := by unfold wrap64; omega
    by_cases e : a[i] = b[i]
    · rw [if_pos e, hw, ih k (i + 1) (by omega) (by omega), e]
      congr 1
      exact decide_eq_decide.2 (by simp only [List.cons.injEq, true_and])
    · rw [if_neg e]
      congr 1
      exact (decide_eq_false (fun h => e (List.cons.inj h).1)).symm
theorem same_eq (k : Nat) (a b : List Int) (hb : a.length ≤ 9223372036854775806) (hk : a.length < k) : winnowlaw1_same.f k a b = some (decide (a = b)) := by
  unfold winnowlaw1_same.f
  by_cases h : a.length = b.length
  · rw [if_pos (by omega)]
    have := same_loop a b h hb a.length k 0 (by omega) hk
    simpa using this
  · rw [if_neg (by omega)]
    have : a ≠ b := fun e => h (by rw [e])
    simp [this]

/-! ### joining -/
theorem bits_and1_i64 (n : Int) (h : 0 ≤ n) (h2 : n ≤ 9223372036854775807) : Go.bits .and .i64 n 1 = n % 2 := by
  obtain ⟨m, rfl⟩ := Int.eq_ofNat_of_zero_le h
  have h1 := (bits_nat .i64 63 (by decide) (fun z h0 hz => by rw [IntKind.wrap_i64]; omega) m 1 (by omega) (by omega)).1
  rw [Nat.and_one_is_mod] at h1
  rw [show (1 : Int) = ((1 : Nat) : Int) from rfl, h1]
  omega

theorem step_eq (x : Nat) (hx : x < 2 ^ 32) : crc_step.f (x : Int) = some ((Crc.step x : Nat) : Int) := by
  unfold crc_step.f Crc.step
  rw [b_and1 x hx]
  rcases Nat.mod_two_eq_zero_or_one x with h | h
  · rw [h, if_neg (by decide), if_neg (by decide)]; simp
  · rw [h, if_pos (by decide), if_pos (by decide)]
    have := b_xor (x / 2) Crc.poly (by omega) Crc.poly_lt
    rw [show ((x / 2 : Nat) : Int) = (x : Int) / 2 from by simp] at this
    rw [← this]
    rfl

theorem times_loop (n : Nat) : ∀ (k a b p : Nat), a < 2 ^ 32 → b < 2 ^ 32 → p < 2 ^ 32 → b * 2 ^ n % 2 ^ 32 = 0 → n < k →
    crc_times.l0 k (a : Int) (b : Int) (p : Int) = some ((Crc.tm n a b p : Nat) : Int) := by
  induction n with
  | zero =>
    intro k a b p ha hb hp h0 hk
    obtain ⟨k, rfl⟩ : ∃ m, k = m + 1 := ⟨k - 1, by omega⟩
    have : b = 0 := by omega
    subst this
    simp only [crc_times.l0]
    rw [if_pos (by omega)]
    rfl
  | succ n ih =>
    intro k a b p ha hb hp h0 hk
    obtain ⟨k, rfl⟩ : ∃ m, k = m + 1 := ⟨k - 1, by omega⟩
    simp only [crc_times.l0]
    by_cases hb0 : b = 0
    · subst hb0
      rw [if_pos (by omega), Crc.tm_zero]
    · rw [if_neg (by omega), step_eq a ha]
      simp only [Option.bind_some]
      have hs := Crc.step_lt ha
      have hb2 : ((b : Int) * 2) % 4294967296 = ((b * 2 % 2 ^ 32 : Nat) : Int) := by omega
      have hz : (b * 2 % 2 ^ 32) * 2 ^ n % 2 ^ 32 = 0 := by
        rw [Nat.mod_mul_mod, Nat.mul_assoc, ← Nat.pow_succ']
        exact h0
      rw [hb2]
      by_cases h1 : b / 2 ^ 31 = 1
      · rw [if_pos (by omega), b_xor p a hp ha, ih k _ _ _ hs (Nat.mod_lt _ (by decide)) (Nat.xor_lt_two_pow hp ha) hz (by omega)]
        simp only [Crc.tm]
        rw [if_pos h1]
      · rw [if_neg (by omega), ih k _ _ _ hs (Nat.mod_lt _ (by decide)) hp hz (by omega)]
        simp only [Crc.tm]
        rw [if_neg h1]
theorem times_pw (k a j : Nat) (ha : a < 2 ^ 32) (hk : 32 < k) : crc_times.f k (a : Int) ((Crc.pw Crc.step j (2 ^ 31) : Nat) : Int) = some ((Crc.pw Crc.step j a : Nat) : Int) := by
  unfold crc_times.f
  have := times_loop 32 k a (Crc.pw Crc.step j (2 ^ 31)) 0 ha (Crc.pw_step_lt (by decide) j) (by decide) (by rw [Nat.mul_mod_left]) hk
  rw [Crc.tm_pw ha] at this
  exact this

theorem pwe_lt (j : Nat) : Crc.pw Crc.step j (2 ^ 31) < 2 ^ 32 := Crc.pw_step_lt (by decide) j
theorem pw_pw (a b x : Nat) : Crc.pw Crc.step a (Crc.pw Crc.step b x) = Crc.pw Crc.step (a + b) x := (Crc.pw_add _ _ _ _).symm

theorem Join_loop (a b n : Nat) (ha : a < 2 ^ 32) (hb : b < 2 ^ 32) (hn : n < 2 ^ 63) (hn0 : 0 < n) (d : Nat) : ∀ (k i : Nat), i + d = 63 → 2 * d + 33 < k →
    crc_Join.l0 k ((Crc.pw Crc.step (8 * (n % 2 ^ i)) a : Nat) : Int) (b : Int) (n : Int) ((Crc.pw Crc.step (8 * 2 ^ i) (2 ^ 31) : Nat) : Int) (i : Int) = some ((Crc.pw Crc.step (8 * n) a ^^^ b : Nat) : Int) := by
  induction d with
  | zero =>
    intro k i hi hk
    obtain ⟨k, rfl⟩ : ∃ m, k = m + 1 := ⟨k - 1, by omega⟩
    obtain rfl : i = 63 := by omega
    simp only [crc_Join.l0]
    rw [if_neg (by decide), Nat.mod_eq_of_lt hn, b_xor _ _ (Crc.pw_step_lt ha _) hb]
  | succ d ih =>
    intro k i hi hk
    obtain ⟨k, rfl⟩ : ∃ m, k = m + 2 := ⟨k - 2, by omega⟩
    have hk' : 32 < k := by omega
    have hi' : i + 1 + d = 63 := by omega
    have hk'' : 2 * d + 33 < k := by omega
    have hw : wrap64 ((i : Int) + 1) = ((i + 1 : Nat) : Int) := by unfold wrap64; omega
    have c1 : (i : Int) < 63 := by omega
    have c2 : (n : Int) > 0 := by omega
    have hsh : shr .i64 (n : Int) (i : Int) = ((n / 2 ^ i : Nat) : Int) := by
      unfold shr
      rw [Int.toNat_natCast, show min i IntKind.i64.bits = i from by show min i 64 = i; omega]
      simp
    simp only [crc_Join.l0]
    have hm : n % 2 ^ (i + 1) = n % 2 ^ i + 2 ^ i * (n / 2 ^ i % 2) := Nat.mod_pow_succ
    have hq : n / 2 ^ i ≤ n := Nat.div_le_self _ _
    generalize n / 2 ^ i = q at hsh hm hq
    rw [if_pos c1, if_pos c2, if_pos (Int.natCast_nonneg i), hsh]
    clear hsh
    rw [bits_and1_i64 (q : Int) (Int.natCast_nonneg q) (by omega)]
    have hp := times_pw k (Crc.pw Crc.step (8 * 2 ^ i) (2 ^ 31)) (8 * 2 ^ i) (pwe_lt (8 * 2 ^ i)) hk'
    have h2 : 8 * 2 ^ i + 8 * 2 ^ i = 8 * 2 ^ (i + 1) := by rw [Nat.pow_succ]; omega
    rw [pw_pw, h2] at hp
    simp only [crc_Join.j1]
    rcases Nat.mod_two_eq_zero_or_one (q) with h | h
    · rw [show ((q : Int) % 2 == 1) = false from by rw [show (q : Int) % 2 = 0 from by omega]; rfl]
      rw [if_neg (by decide), hp]
      simp only [Option.bind_some]
      rw [hw]
      have := ih k (i + 1) hi' hk''
      rw [hm, h, Nat.mul_zero, Nat.add_zero] at this
      exact this
    · rw [show ((q : Int) % 2 == 1) = true from by rw [show (q : Int) % 2 = 1 from by omega]; rfl]
      rw [if_pos rfl, times_pw k _ _ (Crc.pw_step_lt ha _) hk', pw_pw, hp]
      simp only [Option.bind_some]
      rw [hw]
      have := ih k (i + 1) hi' hk''
      rw [hm, h, Nat.mul_one, show 8 * (n % 2 ^ i + 2 ^ i) = 8 * 2 ^ i + 8 * (n % 2 ^ i) from by omega] at this
      exact this

theorem Join_loop0 (a b : Nat) (n : Int) (ha : a < 2 ^ 32) (hb : b < 2 ^ 32) (hn : n ≤ 0) (d : Nat) : ∀ (k i : Nat), i + d = 63 → 2 * d + 33 < k →
    crc_Join.l0 k (a : Int) (b : Int) n ((Crc.pw Crc.step (8 * 2 ^ i) (2 ^ 31) : Nat) : Int) (i : Int) = some ((a ^^^ b : Nat) : Int) := by
  induction d with
  | zero =>
    intro k i hi hk
    obtain ⟨k, rfl⟩ : ∃ m, k = m + 1 := ⟨k - 1, by omega⟩
    obtain rfl : i = 63 := by omega
    simp only [crc_Join.l0]
    rw [if_neg (by decide), b_xor _ _ ha hb]
  | succ d ih =>
    intro k i hi hk
    obtain ⟨k, rfl⟩ : ∃ m, k = m + 2 := ⟨k - 2, by omega⟩
    have hk' : 32 < k := by omega
    have hi' : i + 1 + d = 63 := by omega
    have hk'' : 2 * d + 33 < k := by omega
    have hw : wrap64 ((i : Int) + 1) = ((i + 1 : Nat) : Int) := by unfold wrap64; omega
    have c1 : (i : Int) < 63 := by omega
    have c2 : ¬ n > 0 := by omega
    simp only [crc_Join.l0, crc_Join.j1]
    have hp := times_pw k (Crc.pw Crc.step (8 * 2 ^ i) (2 ^ 31)) (8 * 2 ^ i) (pwe_lt (8 * 2 ^ i)) hk'
    have h2 : 8 * 2 ^ i + 8 * 2 ^ i = 8 * 2 ^ (i + 1) := by rw [Nat.pow_succ]; omega
    rw [pw_pw, h2] at hp
    rw [if_pos c1, if_neg c2, if_neg (by decide), hp]
    simp only [Option.bind_some]
    rw [hw]
    exact ih k (i + 1) hi' hk''

/-- what joining answers -/
def joinN (a b n : Nat) : Nat := Crc.pw Crc.step (8 * n) a ^^^ b
theorem joinN_lt (a b n : Nat) (ha : a < 2 ^ 32) (hb : b < 2 ^ 32) : joinN a b n < 2 ^ 32 := Nat.xor_lt_two_pow (Crc.pw_step_lt ha _) hb
theorem power0 : (8388608 : Int) = ((Crc.pw Crc.step (8 * 2 ^ 0) (2 ^ 31) : Nat) : Int) := by decide
theorem Join_eq (a b : Nat) (n : Int) (ha : a < 2 ^ 32) (hb : b < 2 ^ 32) (hn : n ≤ 9223372036854775807) (k : Nat) (hk : 160 ≤ k) : crc_Join.f k (a : Int) (b : Int) n = some ((joinN a b n.toNat : Nat) : Int) := by
  unfold crc_Join.f
  rw [power0]
  by_cases h : n ≤ 0
  · have := Join_loop0 a b n ha hb h 63 k 0 rfl (by omega)
    rw [show n.toNat = 0 from by omega]
    exact this
  · obtain ⟨m, rfl⟩ := Int.eq_ofNat_of_zero_le (show 0 ≤ n by omega)
    have := Join_loop a b m ha hb (by omega) (by omega) 63 k 0 rfl (by omega)
    rw [Nat.pow_zero, Nat.mod_one] at this
    exact this
theorem joinN_assoc (a b c m n : Nat) : joinN (joinN a b m) c n = joinN a (joinN b c n) (m + n) := by
  unfold joinN
  rw [(Crc.step_lin.pw (8 * n)), pw_pw, show 8 * n + 8 * m = 8 * (m + n) from by omega, Nat.xor_assoc]
end Go.Proofs.Ytghajggnakhobaa.P
