/- Every burst of 32 bits is told, over every seam. No conditions but the row's own. -/
import Derived.Test.YtghajggnakhobaaSCrcBurst
import Derived.Test.YtghajggnakhobaaPlain
namespace Go.Proofs.Ytghajggnakhobaa.P
open Go.RowKit Go.Proofs.YtghajggnakhobaaW.PrintWords Go.Proofs.YtghajggnakhobaaW.PrintLast Go.Proofs.YtghajggnakhobaaW.PrintMore Go.Proofs.Ytghajggnakhobaa.Hand

theorem mulp_xor (k x y : Nat) : 2 ^ k * (x ^^^ y) = (2 ^ k * x) ^^^ (2 ^ k * y) := by
  apply Nat.eq_of_testBit_eq; intro i
  have e : ∀ x : Nat, 2 ^ k * x = x <<< k := fun x => by rw [Nat.shiftLeft_eq, Nat.mul_comm]
  rw [e, e, e]
  simp only [Nat.testBit_xor, Nat.testBit_shiftLeft]
  by_cases h : i ≥ k <;> simp [h]
/-- the numbers of a text -/
def nb (l : List Int) : List Nat := l.map n32
theorem nb_length (l : List Int) : (nb l).length = l.length := by simp [nb]
/-- one byte turned -/
theorem le_set (l : List Nat) : ∀ (q v : Nat) (h : q < l.length), Crc.le (l.set q (l[q] ^^^ v)) = Crc.le l ^^^ (2 ^ (8 * q) * v) := by
  induction l with
  | nil => intro q v h; simp at h
  | cons c l ih =>
    intro q v h
    cases q with
    | zero =>
      simp only [List.set_cons_zero, List.getElem_cons_zero, Crc.le]
      rw [Nat.mul_zero, Nat.pow_zero, Nat.one_mul, Nat.xor_assoc, Nat.xor_comm v, ← Nat.xor_assoc]
    | succ q =>
      simp only [List.set_cons_succ, List.getElem_cons_succ, Crc.le]
      rw [ih q v (by simpa using h), mulp_xor, ← Nat.mul_assoc, ← Nat.pow_add, show 8 + 8 * q = 8 * (q + 1) from by omega, Nat.xor_assoc]
theorem le4 (a b c d : Nat) : Crc.le [a, b, c, d] = a ^^^ (2 ^ 8 * (b ^^^ 2 ^ 8 * (c ^^^ 2 ^ 8 * d))) := by
  simp [Crc.le]
theorem byte_add (c x : Nat) (hc : c < 256) : c ^^^ (2 ^ 8 * x) = c + 256 * x := by
  have h := Nat.two_pow_add_eq_or_of_lt (i := 8) (show c < 2 ^ 8 by omega) x
  have hx : c ^^^ (2 ^ 8 * x) = 2 ^ 8 * x ||| c := by
    apply Nat.eq_of_testBit_eq; intro i
    have e : 2 ^ 8 * x = x <<< 8 := by rw [Nat.shiftLeft_eq, Nat.mul_comm]
    rw [e, Nat.testBit_xor, Nat.testBit_or, Nat.testBit_shiftLeft]
    by_cases hi : i ≥ 8
    · have : c.testBit i = false := Nat.testBit_lt_two_pow (Nat.lt_of_lt_of_le (show c < 2 ^ 8 by omega) (Nat.pow_le_pow_right (by decide) hi))
      simp [this]
    · simp [hi]
  rw [hx, ← h]; omega
theorem le_four (s : Nat) (hs : s < 2 ^ 32) : Crc.le (nb (four (s : Int))) = s := by
  have e : nb (four (s : Int)) = [s % 256, s / 256 % 256, s / 65536 % 256, s / 16777216 % 256] := by
    simp only [nb, four, List.map_cons, List.map_nil, n32, List.cons.injEq, and_true]
    omega
  rw [e, le4, byte_add _ _ (by omega), byte_add _ _ (by omega), byte_add _ _ (by omega)]
  omega
theorem le_lt4 (f : List Nat) (hl : f.length = 4) (hf : ∀ x ∈ f, x < 256) : Crc.le f < 2 ^ 32 := by
  match f, hl with
  | [a, b, c, d], _ =>
    have ha := hf a (by simp)
    have hb := hf b (by simp)
    have hc := hf c (by simp)
    have hd := hf d (by simp)
    rw [le4, byte_add _ _ ha, byte_add _ _ hb, byte_add _ _ hc]
    omega
theorem four_of_le (f : List Int) (hl : f.length = 4) (hf : R8 f) : f = four (Crc.le (nb f) : Int) := by
  match f, hl with
  | [a, b, c, d], _ =>
    have ha := hf a (by simp)
    have hb := hf b (by simp)
    have hc := hf c (by simp)
    have hd := hf d (by simp)
    obtain ⟨a, rfl⟩ := Int.eq_ofNat_of_zero_le ha.1
    obtain ⟨b, rfl⟩ := Int.eq_ofNat_of_zero_le hb.1
    obtain ⟨c, rfl⟩ := Int.eq_ofNat_of_zero_le hc.1
    obtain ⟨d, rfl⟩ := Int.eq_ofNat_of_zero_le hd.1
    have e : nb [(a : Int), b, c, d] = [a, b, c, d] := by
      simp only [nb, List.map_cons, List.map_nil]
      rw [n32_nat a (by omega), n32_nat b (by omega), n32_nat c (by omega), n32_nat d (by omega)]
    rw [e, le4, byte_add _ _ (by omega), byte_add _ _ (by omega), byte_add _ _ (by omega)]
    simp only [four, List.cons.injEq, and_true]
    omega
theorem nb_lt (l : List Int) (h : R8 l) : ∀ x ∈ nb l, x < 256 := by
  intro x hx
  obtain ⟨z, hz, rfl⟩ := List.mem_map.1 hx
  have := h z hz
  unfold n32; omega
theorem nb_append (a b : List Int) : nb (a ++ b) = nb a ++ nb b := List.map_append ..

/-- what all bytes of a right tile come to -/
def R0 : Nat := Crc.pw Crc.step 32 Crc.mask
theorem accept_iff (l f : List Int) (hl : f.length = 4) (hf : R8 f) : four (extI 0 l) = f ↔ Crc.run Crc.mask (nb (l ++ f)) = R0 := by
  have hs : Crc.ext 0 (nb l) < 2 ^ 32 := ext_lt 0 _ (by decide) (n32s_lt l)
  have hr : Crc.run Crc.mask (nb l) < 2 ^ 32 := run_lt _ _ mask_lt (n32s_lt l)
  have he : Crc.ext 0 (nb l) = Crc.run Crc.mask (nb l) ^^^ Crc.mask := by unfold Crc.ext; rw [Nat.zero_xor]
  have hlf : Crc.le (nb f) < 2 ^ 32 := le_lt4 _ (by rw [nb_length, hl]) (nb_lt f hf)
  have hx : extI 0 l = ((Crc.ext 0 (nb l) : Nat) : Int) := rfl
  rw [nb_append, Crc.run_append, Crc.run_le _ (nb f), nb_length, hl, hx]
  have key : ∀ y, Crc.run Crc.mask (nb l) ^^^ y = Crc.mask ↔ y = Crc.ext 0 (nb l) := by
    intro y
    rw [he]
    constructor
    · intro h
      have := congrArg (Crc.run Crc.mask (nb l) ^^^ ·) h
      simp only [← Nat.xor_assoc, Nat.xor_self, Nat.zero_xor] at this
      exact this
    · intro h
      rw [h, ← Nat.xor_assoc, Nat.xor_self, Nat.zero_xor]
  constructor
  · intro h
    rw [← h, le_four _ hs, (key _).2 rfl]
    rfl
  · intro h
    have h2 := Crc.pw_inj 32 (Nat.xor_lt_two_pow hr hlf) mask_lt h
    rw [four_of_le f hl hf, (key _).1 h2]

theorem mod_succ_xor (m k : Nat) : m % 2 ^ (k + 1) = (m % 2 ^ k) ^^^ (2 ^ k * (m / 2 ^ k % 2)) := by
  apply Nat.eq_of_testBit_eq; intro i
  rw [Nat.testBit_xor, Nat.testBit_mod_two_pow, Nat.testBit_mod_two_pow]
  have e : 2 ^ k * (m / 2 ^ k % 2) = (m >>> k % 2 ^ 1) <<< k := by rw [Nat.shiftLeft_eq, Nat.shiftRight_eq_div_pow, Nat.mul_comm]
  rw [e, Nat.testBit_shiftLeft, Nat.testBit_mod_two_pow, Nat.testBit_shiftRight]
  rcases Nat.lt_trichotomy i k with h | h | h
  · have h1 : i < k + 1 := by omega
    have h2 : ¬ i ≥ k := by omega
    simp [h, h1, h2]
  · subst h
    simp
  · have h1 : ¬ i < k + 1 := by omega
    have h2 : ¬ i < k := by omega
    have h3 : ¬ i - k < 1 := by omega
    simp [h1, h2, h3]

theorem set_nb (l : List Int) (q : Nat) (x : Nat) (hx : x < 2 ^ 32) : nb (l.set q (x : Int)) = (nb l).set q x := by
  unfold nb
  rw [List.map_set, n32_nat x hx]
theorem R8_set (l : List Int) (h : R8 l) (q : Nat) (x : Int) (h0 : 0 ≤ x) (h1 : x ≤ 255) : R8 (l.set q x) := by
  intro y hy
  rcases List.mem_or_eq_of_mem_set hy with hy | rfl
  · exact h y hy
  · exact ⟨h0, h1⟩

/-- how a turned tile stands beside the old one -/
structure Turn (t x : List Int) (at_ m : Nat) (turned : Bool) : Prop where
  len : x.length = t.length
  r8 : R8 x
  le : Crc.le (nb x) = Crc.le (nb t) ^^^ (2 ^ at_ * m)
  no : turned = false → x = t ∧ m = 0
  yes : turned = true → m ≠ 0
theorem Turn.step {t x : List Int} {at_ m k : Nat} {turned : Bool} (h : Turn t x at_ (m % 2 ^ k) turned) (hq : (at_ + k) / 8 < t.length) (hb : m / 2 ^ k % 2 = 1) :
    ∃ v : Nat, Go.bits .xor .u8 (rd x (((at_ + k) / 8 : Nat) : Int)) ((2 ^ ((at_ + k) % 8) : Nat) : Int) = (v : Int) ∧ Turn t (x.set ((at_ + k) / 8) (v : Int)) at_ (m % 2 ^ (k + 1)) true := by
  obtain ⟨q, hqe⟩ : ∃ q, q = (at_ + k) / 8 := ⟨_, rfl⟩
  obtain ⟨r, hre⟩ : ∃ r, r = (at_ + k) % 8 := ⟨_, rfl⟩
  rw [← hqe, ← hre]
  rw [← hqe] at hq
  have hr : r < 8 := by omega
  have hqr : 8 * q + r = at_ + k := by omega
  have hql : q < x.length := by rw [h.len]; exact hq
  have h8 := h.r8 _ (List.getElem_mem hql)
  obtain ⟨c, hc⟩ := Int.eq_ofNat_of_zero_le h8.1
  have hc8 : c < 2 ^ 8 := by omega
  have hp8 : 2 ^ r < 2 ^ 8 := Nat.pow_lt_pow_right (by decide) hr
  have hv : c ^^^ 2 ^ r < 2 ^ 8 := Nat.xor_lt_two_pow hc8 hp8
  refine ⟨c ^^^ 2 ^ r, ?_, ?_⟩
  · rw [rd_nat x q hql, hc, u8_xor_nat c (2 ^ r) (by omega) (by omega)]
  · have hcb : (nb x)[q]'(by rw [nb_length]; exact hql) = c := by
      simp only [nb, List.getElem_map]
      rw [hc, n32_nat c (by omega)]
    have hle := le_set (nb x) q (2 ^ r) (by rw [nb_length]; exact hql)
    rw [hcb] at hle
    refine ⟨by rw [List.length_set]; exact h.len, R8_set x h.r8 q _ (by omega) (by omega), ?_, (fun e => by cases e), (fun _ => ?_)⟩
    · rw [set_nb x q _ (by omega), hle, h.le, mod_succ_xor, hb, Nat.mul_one, mulp_xor, Nat.xor_assoc]
      congr 2
      rw [← Nat.pow_add, ← Nat.pow_add, hqr]
    · rw [Nat.mod_pow_succ, hb]
      have := Nat.two_pow_pos k
      omega
theorem Turn.stay {t x : List Int} {at_ m k : Nat} {turned : Bool} (h : Turn t x at_ (m % 2 ^ k) turned) (hb : m / 2 ^ k % 2 = 0) : Turn t x at_ (m % 2 ^ (k + 1)) turned := by
  have e : m % 2 ^ (k + 1) = m % 2 ^ k := by rw [Nat.mod_pow_succ, hb]; omega
  rw [e]
  exact h

/-- of a tile some bits of which are turned: it is told -/
theorem told (b x : List Int) (at_ m : Nat) (turned : Bool) (hm : m < 2 ^ 32) (ha : at_ ≤ 8 * (b.length + 4)) (hb : b.length + 4 < 140737488355328) (h : Turn (b ++ four (extI 0 b)) x at_ m turned) :
    (turned = true → crc_Open.f x = some ([], 10)) ∧ (turned = false → crc_Open.f x = some (b, 0)) := by
  have hlen : x.length = b.length + 4 := by rw [h.len, List.length_append, four_length]
  have hO := Open_eq x b.length hlen (by omega) h.r8
  have hR := (accept_iff b (four (extI 0 b)) (four_length _) (four_R8 _)).1 rfl
  have hd4 : (x.drop b.length).length = 4 := by rw [List.length_drop]; omega
  have hA := accept_iff (x.take b.length) (x.drop b.length) hd4 (fun y hy => h.r8 y (List.mem_of_mem_drop hy))
  rw [List.take_append_drop] at hA
  have hrun : Crc.run Crc.mask (nb x) = R0 ^^^ Crc.pw Crc.step (8 * x.length) (2 ^ at_ * m) := by
    rw [Crc.run_le, nb_length, h.le, ← Nat.xor_assoc, (Crc.step_lin.pw _), ← hR, Crc.run_le, nb_length, h.len]
  constructor
  · intro ht
    have hne : ¬ four (extI 0 (x.take b.length)) = x.drop b.length := by
      intro e
      have h1 := hA.1 e
      rw [hrun] at h1
      have h2 : Crc.pw Crc.step (8 * x.length) (2 ^ at_ * m) = 0 := by
        have := congrArg (R0 ^^^ ·) h1
        simp only [← Nat.xor_assoc, Nat.xor_self, Nat.zero_xor] at this
        exact this
      rw [show 8 * x.length = (8 * x.length - at_) + at_ from by rw [hlen]; omega, Crc.pw_add, Crc.pw_even] at h2
      have h3 : Crc.pw Crc.step (8 * x.length - at_) 0 = 0 := (Crc.step_lin.pw _).zero
      exact h.yes ht (Crc.pw_inj _ hm (by decide) (h2.trans h3.symm))
    rw [hO, if_neg hne]
  · intro ht
    obtain ⟨rfl, _⟩ := h.no ht
    rw [hO, List.take_left, List.drop_left, if_pos rfl]

theorem tdiv8 (z : Nat) : Int.tdiv (z : Int) 8 = ((z / 8 : Nat) : Int) := rfl
theorem tmod8 (z : Nat) : Int.tmod (z : Int) 8 = ((z % 8 : Nat) : Int) := rfl
theorem shr_mask (m k : Nat) (hk : k < 32) : Int.tmod (shr .u32 (m : Int) (k : Int)) 2 = ((m / 2 ^ k % 2 : Nat) : Int) := by
  have e : shr .u32 (m : Int) (k : Int) = ((m / 2 ^ k : Nat) : Int) := by
    unfold shr
    rw [Int.toNat_natCast, show min k IntKind.u32.bits = k from by show min k 32 = k; omega]
    simp
  rw [e]
  rfl
theorem shl_bit (r : Nat) (hr : r < 8) : shl .u8 1 (r : Int) = ((2 ^ r : Nat) : Int) := by
  unfold shl
  rw [Int.toNat_natCast, show min r IntKind.u8.bits = r from by show min r 8 = r; omega, Int.one_mul, IntKind.wrap_u8]
  have h : 2 ^ r < 2 ^ 8 := Nat.pow_lt_pow_right (by decide) hr
  have h2 : ((2 : Int) ^ r) = ((2 ^ r : Nat) : Int) := by simp
  rw [h2]
  generalize 2 ^ r = p at h ⊢
  omega

/-- the end: what Open tells of the turned tile -/
theorem burst_end (b x : List Int) (at_ m : Nat) (n : Int) (a1 a2 : Int) (k0 : Int) (turned : Bool) (hm : m < 2 ^ 32) (ha : at_ ≤ 8 * (b.length + 4)) (hb : b.length + 4 < 140737488355328) (h : Turn (b ++ four (extI 0 b)) x at_ m turned) (k : Nat) (hk : b.length < k) :
    winnowlaw1_CrcBurst.j2 (k + 1) b a1 a2 x n turned k0 false = some true := by
  have hwk : winnowlaw1_works.f = some true := rfl
  have hT := told b x at_ m turned hm ha hb h
  rw [winnowlaw1_CrcBurst.j2, if_neg (by decide)]
  cases turned with
  | true =>
    rw [hT.1 rfl, Option.bind_some, if_pos rfl, hwk, Option.bind_some, if_pos rfl]
    unfold winnowlaw1_refused.f
    rw [hT.1 rfl, Option.bind_some]
    dsimp only
    rw [if_pos rfl, Option.bind_some]
    rfl
  | false =>
    rw [hT.2 rfl, Option.bind_some, if_neg (by decide)]
    dsimp only
    rw [if_pos rfl, same_eq k b b (by omega) hk, Option.bind_some, decide_eq_true (rfl : b = b)]

theorem burst_loop (b : List Int) (at_ m : Nat) (hm : m < 2 ^ 32) (ha : at_ < 8 * (b.length + 4)) (hb : b.length + 4 < 140737488355328) (d : Nat) : ∀ (K k : Nat) (x : List Int) (turned : Bool), k + d = 32 → 2 * d + b.length + 3 < K → at_ + k ≤ 8 * (b.length + 4) ∨ k = 0 →
    Turn (b ++ four (extI 0 b)) x at_ (m % 2 ^ k) turned →
    winnowlaw1_CrcBurst.l0 K b (at_ : Int) (m : Int) x ((8 * (b.length + 4) : Nat) : Int) turned (k : Int) = some true := by
  induction d with
  | zero =>
    intro K k x turned hkd hK _ h
    obtain ⟨K, rfl⟩ : ∃ q, K = q + 2 := ⟨K - 2, by omega⟩
    obtain rfl : k = 32 := by omega
    rw [winnowlaw1_CrcBurst.l0, if_neg (by decide)]
    exact burst_end b x at_ _ _ _ _ _ turned (Nat.lt_of_le_of_lt (Nat.mod_le _ _) hm) (by omega) hb h K (by omega)
  | succ d ih =>
    intro K k x turned hkd hK hat h
    obtain ⟨K, rfl⟩ : ∃ q, K = q + 2 := ⟨K - 2, by omega⟩
    have hk32 : k < 32 := by omega
    have hw : wrap64 ((at_ : Int) + (k : Int)) = ((at_ + k : Nat) : Int) := by unfold wrap64; omega
    have hw1 : wrap64 ((k : Int) + 1) = ((k + 1 : Nat) : Int) := by unfold wrap64; omega
    rw [winnowlaw1_CrcBurst.l0, if_pos (by omega), hw]
    by_cases hlt : at_ + k < 8 * (b.length + 4)
    · rw [decide_eq_true (show ((at_ + k : Nat) : Int) < ((8 * (b.length + 4) : Nat) : Int) by omega)]
      have hlen : x.length = b.length + 4 := by rw [h.len, List.length_append, four_length]
      have hw8 : wrap64 (((at_ + k) / 8 : Nat) : Int) = (((at_ + k) / 8 : Nat) : Int) := by unfold wrap64; omega
      rw [winnowlaw1_CrcBurst.j2, if_pos rfl, if_pos (Int.natCast_nonneg k), shr_mask m k hk32]
      rcases Nat.mod_two_eq_zero_or_one (m / 2 ^ k) with h0 | h1
      · rw [h0, if_neg (by decide), hw1]
        exact ih K (k + 1) x turned (by omega) (by omega) (by omega) (h.stay h0)
      · rw [h1, if_pos (by decide), hw, tdiv8, hw8, if_pos (by omega), if_pos (by omega), tmod8, if_pos (by omega), Int.toNat_natCast, shl_bit _ (Nat.mod_lt _ (by decide))]
        obtain ⟨v, hv, hT⟩ := h.step (by rw [List.length_append, four_length]; omega) h1
        rw [hv, hw1]
        exact ih K (k + 1) _ true (by omega) (by omega) (by omega) hT
    · rw [decide_eq_false (show ¬ ((at_ + k : Nat) : Int) < ((8 * (b.length + 4) : Nat) : Int) by omega)]
      exact burst_end b x at_ _ _ _ _ _ turned (Nat.lt_of_le_of_lt (Nat.mod_le _ _) hm) (by omega) hb h K (by omega)

theorem CrcBurst_pure : CrcBurstPure := by
  intro b at0 mask ⟨_, hb1, hb2⟩ hat hmask
  have Rb : R8 b := fun x hx => wf8 (hb2 x hx)
  have ra := wf64 hat
  have rm := wf32 hmask
  obtain ⟨m, rfl⟩ := Int.eq_ofNat_of_zero_le rm.1
  have hm : m < 2 ^ 32 := by omega
  have hbl : b.length + 4 < 140737488355328 := by omega
  obtain ⟨K, hK⟩ : ∃ K, 2 * 32 + b.length + 3 < K := ⟨_, Nat.lt_succ_self _⟩
  refine ⟨K + 1, ?_⟩
  have hlen : (b ++ four (extI 0 b)).length = b.length + 4 := by rw [List.length_append, four_length]
  have hw : wrap64 (8 * ((b ++ four (extI 0 b)).length : Int)) = ((8 * (b.length + 4) : Nat) : Int) := by rw [hlen]; unfold wrap64; omega
  have hT0 : ∀ at_, Turn (b ++ four (extI 0 b)) (b ++ four (extI 0 b)) at_ (m % 2 ^ 0) false := by
    intro at_
    refine ⟨rfl, ?_, ?_, fun _ => ⟨rfl, by rw [Nat.pow_zero, Nat.mod_one]⟩, (fun e => by cases e)⟩
    · intro x hx
      rcases List.mem_append.1 hx with h | h
      · exact Rb x h
      · exact four_R8 _ x h
    · rw [Nat.pow_zero, Nat.mod_one, Nat.mul_zero, Nat.xor_zero]
  have fin : ∀ at_ : Nat, at_ < 8 * (b.length + 4) → winnowlaw1_CrcBurst.j0 (K + 1) b (at_ : Int) (m : Int) (b ++ four (extI 0 b)) ((8 * (b.length + 4) : Nat) : Int) = some true := by
    intro at_ h
    rw [winnowlaw1_CrcBurst.j0]
    exact burst_loop b at_ m hm h hbl 32 K 0 _ false (by omega) hK (.inr rfl) (hT0 at_)
  unfold winnowlaw1_CrcBurst.f
  rw [Seal_eq b hbl, Option.bind_some, hw, if_neg (by omega), if_neg (by omega)]
  have hb3 := Int.tmod_lt_of_pos at0 (show (0 : Int) < ((8 * (b.length + 4) : Nat) : Int) by omega)
  have hb4 := Int.lt_tmod_of_pos at0 (show (0 : Int) < ((8 * (b.length + 4) : Nat) : Int) by omega)
  generalize Int.tmod at0 ((8 * (b.length + 4) : Nat) : Int) = q at hb3 hb4 ⊢
  by_cases h : q < 0
  · rw [if_pos h, show wrap64 (q + ((8 * (b.length + 4) : Nat) : Int)) = q + ((8 * (b.length + 4) : Nat) : Int) from by unfold wrap64; omega]
    obtain ⟨z, hz⟩ := Int.eq_ofNat_of_zero_le (show 0 ≤ q + ((8 * (b.length + 4) : Nat) : Int) by omega)
    rw [hz]
    exact fin z (by omega)
  · rw [if_neg h]
    obtain ⟨z, rfl⟩ := Int.eq_ofNat_of_zero_le (show 0 ≤ q by omega)
    exact fin z (by omega)
end Go.Proofs.Ytghajggnakhobaa.P
