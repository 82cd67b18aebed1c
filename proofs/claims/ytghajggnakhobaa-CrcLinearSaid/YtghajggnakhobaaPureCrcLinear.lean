/- Three texts of one length, xor-ed: so are their sums. No conditions but the row's own. -/
import Derived.Test.YtghajggnakhobaaSCrcLinear
import Derived.Test.YtghajggnakhobaaPlain
namespace Go.Proofs.Ytghajggnakhobaa.P
open Go.RowKit Go.Proofs.YtghajggnakhobaaW.PrintWords Go.Proofs.YtghajggnakhobaaW.PrintLast Go.Proofs.Ytghajggnakhobaa.Hand

theorem mul256_xor (x y : Nat) : 2 ^ 8 * (x ^^^ y) = (2 ^ 8 * x) ^^^ (2 ^ 8 * y) := by
  apply Nat.eq_of_testBit_eq; intro i
  have e : ∀ x : Nat, 2 ^ 8 * x = x <<< 8 := fun x => by rw [Nat.shiftLeft_eq, Nat.mul_comm]
  rw [e, e, e]
  simp only [Nat.testBit_xor, Nat.testBit_shiftLeft]
  by_cases h : i ≥ 8 <;> simp [h]
theorem le_xor {α : Type} (f g : α → Nat) (l : List α) : Crc.le (l.map fun j => f j ^^^ g j) = Crc.le (l.map f) ^^^ Crc.le (l.map g) := by
  induction l with
  | nil => simp [Crc.le]
  | cons x l ih =>
    simp only [List.map_cons, Crc.le]
    rw [ih, mul256_xor, Crc.xor4]
/-- a text's first n bytes, as numbers -/
def bs (l : List Int) (j : Nat) : Nat := n32 (rd l (j : Int))
theorem take_map (l : List Int) (n : Nat) (h : n ≤ l.length) : (l.take n).map n32 = (List.range n).map (bs l) := by
  apply List.ext_getElem
  · simp; omega
  · intro i h1 h2
    simp at h1 h2
    simp only [List.getElem_map, List.getElem_take, List.getElem_range, bs]
    rw [rd_nat l i (by omega)]
def x3 (a b c : List Int) (j : Nat) : Nat := bs a j ^^^ bs b j ^^^ bs c j
def dl (a b c : List Int) (n : Nat) : List Int := (List.range n).map fun j => (x3 a b c j : Int)
theorem dl_length (a b c : List Int) (n : Nat) : (dl a b c n).length = n := by simp [dl]
theorem dl_succ (a b c : List Int) (n : Nat) : dl a b c (n + 1) = dl a b c n ++ [(x3 a b c n : Int)] := by
  unfold dl; rw [List.range_succ, List.map_append]; rfl
theorem bs_lt (l : List Int) (j : Nat) : bs l j < 2 ^ 32 := n32_lt _
theorem x3_lt (a b c : List Int) (j : Nat) : x3 a b c j < 2 ^ 32 := Nat.xor_lt_two_pow (Nat.xor_lt_two_pow (bs_lt a j) (bs_lt b j)) (bs_lt c j)
theorem dl_map (a b c : List Int) (n : Nat) : (dl a b c n).map n32 = (List.range n).map (x3 a b c) := by
  unfold dl
  rw [List.map_map]
  apply List.map_congr_left
  intro j _
  exact n32_nat _ (x3_lt a b c j)
theorem ext0_le (l : List Nat) : Crc.ext 0 l = Crc.pw Crc.step (8 * l.length) (Crc.mask ^^^ Crc.le l) ^^^ Crc.mask := by
  unfold Crc.ext; rw [Nat.zero_xor, Crc.run_le]
theorem xor6 (m a b c : Nat) : (m ^^^ (a ^^^ b ^^^ c)) = ((m ^^^ a) ^^^ (m ^^^ b)) ^^^ (m ^^^ c) := by
  apply Nat.eq_of_testBit_eq; intro i
  simp only [Nat.testBit_xor]
  cases m.testBit i <;> cases a.testBit i <;> cases b.testBit i <;> cases c.testBit i <;> rfl
theorem xor7 (m a b c : Nat) : (a ^^^ b ^^^ c) ^^^ m = (a ^^^ m) ^^^ (b ^^^ m) ^^^ (c ^^^ m) := by
  apply Nat.eq_of_testBit_eq; intro i
  simp only [Nat.testBit_xor]
  cases m.testBit i <;> cases a.testBit i <;> cases b.testBit i <;> cases c.testBit i <;> rfl
theorem ext_three (a b c : List Int) (n : Nat) (ha : n ≤ a.length) (hb : n ≤ b.length) (hc : n ≤ c.length) :
    Crc.ext 0 ((dl a b c n).map n32) = Crc.ext 0 ((a.take n).map n32) ^^^ Crc.ext 0 ((b.take n).map n32) ^^^ Crc.ext 0 ((c.take n).map n32) := by
  rw [dl_map, take_map a n ha, take_map b n hb, take_map c n hc, ext0_le, ext0_le, ext0_le, ext0_le]
  simp only [List.length_map, List.length_range]
  have h1 : Crc.le ((List.range n).map (x3 a b c)) = Crc.le ((List.range n).map (bs a)) ^^^ Crc.le ((List.range n).map (bs b)) ^^^ Crc.le ((List.range n).map (bs c)) := by
    have := le_xor (fun j => bs a j ^^^ bs b j) (bs c) (List.range n)
    rw [le_xor (bs a) (bs b) (List.range n)] at this
    exact this
  rw [h1, xor6, (Crc.step_lin.pw (8 * n)), (Crc.step_lin.pw (8 * n)), xor7]
theorem byte_xor3 (a b c : List Int) (j : Nat) (ha : 0 ≤ rd a j ∧ rd a j ≤ 255) (hb : 0 ≤ rd b j ∧ rd b j ≤ 255) (hc : 0 ≤ rd c j ∧ rd c j ≤ 255) :
    Go.bits .xor .u8 (Go.bits .xor .u8 (rd a j) (rd b j)) (rd c j) = (x3 a b c j : Int) := by
  unfold x3 bs
  obtain ⟨x, hx⟩ := Int.eq_ofNat_of_zero_le ha.1
  obtain ⟨y, hy⟩ := Int.eq_ofNat_of_zero_le hb.1
  obtain ⟨z, hz⟩ := Int.eq_ofNat_of_zero_le hc.1
  have h1 : x < 2 ^ 8 := by omega
  have h2 : y < 2 ^ 8 := by omega
  have h3 : z < 2 ^ 8 := by omega
  rw [hx, hy, hz]
  have hxy : x ^^^ y < 2 ^ 8 := Nat.xor_lt_two_pow h1 h2
  rw [u8_xor_nat x y (by omega) (by omega), u8_xor_nat (x ^^^ y) z (by omega) (by omega), n32_nat x (by omega), n32_nat y (by omega), n32_nat z (by omega)]
theorem rd_R8 (l : List Int) (h : R8 l) (j : Nat) (hj : j < l.length) : 0 ≤ rd l (j : Int) ∧ rd l (j : Int) ≤ 255 := by
  rw [rd_nat l j hj]; exact h _ (List.getElem_mem hj)
theorem xor_u32 (x y : Nat) (hx : x < 2 ^ 32) (hy : y < 2 ^ 32) : Go.bits .xor .u32 (x : Int) (y : Int) = ((x ^^^ y : Nat) : Int) := b_xor x y hx hy

theorem linear_loop (a b c : List Int) (n : Nat) (Ra : R8 a) (Rb : R8 b) (Rc : R8 c) (ha : n ≤ a.length) (hb : n ≤ b.length) (hc : n ≤ c.length) (hn : n < 140737488355328) (d : Nat) : ∀ (k i : Nat), i + d = n → d < k →
    winnowlaw1_CrcLinear.l0 k a b c (n : Int) (dl a b c i) (i : Int) = some true := by
  induction d with
  | zero =>
    intro k i hi hk
    obtain ⟨k, rfl⟩ : ∃ m, k = m + 1 := ⟨k - 1, by omega⟩
    obtain rfl : i = n := by omega
    have hwk : winnowlaw1_works.f = some true := rfl
    rw [winnowlaw1_CrcLinear.l0, if_neg (by omega), hwk, Option.bind_some, if_pos rfl, Sum_eq, Option.bind_some, if_pos (Int.natCast_nonneg i), if_pos (by omega), Int.toNat_natCast, Sum_eq, Option.bind_some, if_pos (by omega), Sum_eq, Option.bind_some, if_pos (by omega), Sum_eq, Option.bind_some]
    unfold extI
    rw [show n32 0 = 0 from by decide]
    have la := ext_lt 0 _ (by decide) (n32s_lt (a.take i))
    have lb := ext_lt 0 _ (by decide) (n32s_lt (b.take i))
    have lc := ext_lt 0 _ (by decide) (n32s_lt (c.take i))
    rw [xor_u32 _ _ la lb, xor_u32 _ _ (Nat.xor_lt_two_pow la lb) lc, ext_three a b c i ha hb hc, beq_self_eq_true]
  | succ d ih =>
    intro k i hi hk
    obtain ⟨k, rfl⟩ : ∃ m, k = m + 1 := ⟨k - 1, by omega⟩
    have hw : wrap64 ((i : Int) + 1) = ((i + 1 : Nat) : Int) := by unfold wrap64; omega
    rw [winnowlaw1_CrcLinear.l0, if_pos (by omega), if_pos (Int.natCast_nonneg i), if_pos (by omega), if_pos (by omega), if_pos (by omega), if_pos (by rw [dl_length]; omega),
      byte_xor3 a b c i (rd_R8 a Ra i (by omega)) (rd_R8 b Rb i (by omega)) (rd_R8 c Rc i (by omega)), hw, ← dl_succ]
    exact ih k (i + 1) (by omega) (by omega)

theorem CrcLinear_pure : CrcLinearPure := by
  intro a b c ⟨_, ha1, ha2⟩ ⟨_, hb1, hb2⟩ ⟨_, hc1, hc2⟩
  have Ra : R8 a := fun x hx => wf8 (ha2 x hx)
  have Rb : R8 b := fun x hx => wf8 (hb2 x hx)
  have Rc : R8 c := fun x hx => wf8 (hc2 x hx)
  have hm : mn (mn (a.length : Int) (b.length : Int)) (c.length : Int) = ((min (min a.length b.length) c.length : Nat) : Int) := by
    unfold mn; repeat' split
    all_goals omega
  obtain ⟨n, hn⟩ : ∃ n, n = min (min a.length b.length) c.length := ⟨_, rfl⟩
  refine ⟨n + 1, ?_⟩
  unfold winnowlaw1_CrcLinear.f
  rw [hm, ← hn]
  exact linear_loop a b c n Ra Rb Rc (by omega) (by omega) (by omega) (by omega) n (n + 1) 0 (by omega) (by omega)
end Go.Proofs.Ytghajggnakhobaa.P
