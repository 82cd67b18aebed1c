/- The sums of layer 1 as plain numbers: one step of the register, its powers, what bytes make of it; no program in sight. -/
namespace Go.Proofs.Ytghajggnakhobaa.Crc
def poly : Nat := 0x82F63B78
def step (x : Nat) : Nat := if x % 2 = 1 then (x / 2) ^^^ poly else x / 2

def Lin (f : Nat → Nat) : Prop := ∀ x y, f (x ^^^ y) = f x ^^^ f y

theorem div2_xor (x y : Nat) : (x ^^^ y) / 2 = (x / 2) ^^^ (y / 2) := by
  apply Nat.eq_of_testBit_eq; intro i
  simp [Nat.testBit_xor, Nat.testBit_div_two]

theorem mod2_xor (x y : Nat) : (x ^^^ y) % 2 = (x % 2 + y % 2) % 2 := by
  have h : (x ^^^ y).testBit 0 = (x.testBit 0 != y.testBit 0) := Nat.testBit_xor ..
  simp only [Nat.testBit_zero] at h
  rcases Nat.mod_two_eq_zero_or_one x with hx | hx <;> rcases Nat.mod_two_eq_zero_or_one y with hy | hy <;> rcases Nat.mod_two_eq_zero_or_one (x ^^^ y) with hz | hz <;> simp [hx, hy, hz] at h ⊢

theorem step_lin : Lin step := by
  intro x y
  unfold step
  rw [div2_xor, mod2_xor]
  rcases Nat.mod_two_eq_zero_or_one x with hx | hx <;> rcases Nat.mod_two_eq_zero_or_one y with hy | hy <;> simp [hx, hy]
  · rw [Nat.xor_assoc]
  · rw [Nat.xor_assoc, Nat.xor_comm (y/2), ← Nat.xor_assoc]
  · rw [show x / 2 ^^^ poly ^^^ (y / 2 ^^^ poly) = (x/2 ^^^ y/2) ^^^ (poly ^^^ poly) from by
      apply Nat.eq_of_testBit_eq; intro i; simp [Nat.testBit_xor]; cases (x/2).testBit i <;> cases (y/2).testBit i <;> cases poly.testBit i <;> rfl]
    simp

theorem Lin.zero {f} (h : Lin f) : f 0 = 0 := by
  have := h 0 0
  simpa using this

theorem Lin.comp {f g} (hf : Lin f) (hg : Lin g) : Lin (fun x => f (g x)) := fun x y => by
  show f (g (x ^^^ y)) = _
  rw [hg, hf]

theorem xor4 (a b c d : Nat) : (a ^^^ b) ^^^ (c ^^^ d) = (a ^^^ c) ^^^ (b ^^^ d) := by
  rw [Nat.xor_assoc, Nat.xor_assoc, ← Nat.xor_assoc b, Nat.xor_comm b c, Nat.xor_assoc c]

theorem Lin.xor {f g} (hf : Lin f) (hg : Lin g) : Lin (fun x => f x ^^^ g x) := fun x y => by
  show f (x ^^^ y) ^^^ g (x ^^^ y) = _
  rw [hf, hg, xor4]

def pw (f : Nat → Nat) : Nat → Nat → Nat
  | 0, x => x
  | k + 1, x => f (pw f k x)

theorem Lin.pw {f} (hf : Lin f) (k : Nat) : Lin (pw f k) := by
  induction k with
  | zero => intro x y; rfl
  | succ k ih => exact Lin.comp (f := f) (g := Go.Proofs.Ytghajggnakhobaa.Crc.pw f k) hf ih

theorem pw_add (f : Nat → Nat) (a b x : Nat) : pw f (a + b) x = pw f a (pw f b x) := by
  induction a with
  | zero => rw [Nat.zero_add]; rfl
  | succ a ih => rw [Nat.succ_add]; show f _ = f _; rw [ih]

theorem pw_succ' (f : Nat → Nat) (k x : Nat) : pw f (k + 1) x = pw f k (f x) := pw_add f k 1 x

/-- a number below 2^(n+1) by its highest bit -/
theorem top_bit (n x : Nat) (h : x < 2 ^ (n + 1)) : x < 2 ^ n ∨ ∃ y, y < 2 ^ n ∧ x = y ^^^ 2 ^ n := by
  by_cases hx : x < 2 ^ n
  · exact .inl hx
  · refine .inr ⟨x - 2 ^ n, by rw [Nat.pow_succ] at h; omega, ?_⟩
    have hy : x - 2 ^ n < 2 ^ n := by rw [Nat.pow_succ] at h; omega
    have := Nat.two_pow_add_eq_or_of_lt hy 1
    apply Nat.eq_of_testBit_eq; intro i
    have e : x = 2 ^ n + (x - 2 ^ n) := by omega
    rw [Nat.testBit_xor, Nat.testBit_two_pow]
    by_cases hi : n = i
    · subst hi
      rw [e]
      simp only [Nat.testBit_two_pow_add_eq]
      simp [Nat.testBit_lt_two_pow hy]
    · by_cases hlt : i < n
      · rw [e]; rw [Nat.testBit_two_pow_add_gt hlt]; simp [hi]
      · have hgt : n < i := by omega
        have h1 : x.testBit i = false := Nat.testBit_lt_two_pow (Nat.lt_of_lt_of_le h (Nat.pow_le_pow_right (by decide) hgt))
        have h2 : (x - 2 ^ n).testBit i = false := Nat.testBit_lt_two_pow (Nat.lt_of_lt_of_le hy (Nat.pow_le_pow_right (by decide) (by omega)))
        rw [h1, h2]; simp [hi]

theorem lin_ext {f g : Nat → Nat} (hf : Lin f) (hg : Lin g) (n : Nat) (h : ∀ i, i < n → f (2 ^ i) = g (2 ^ i)) : ∀ x, x < 2 ^ n → f x = g x := by
  induction n with
  | zero => intro x hx; obtain rfl : x = 0 := by simp at hx; exact hx
            rw [hf.zero, hg.zero]
  | succ n ih =>
    intro x hx
    have ih' := ih (fun i hi => h i (by omega))
    rcases top_bit n x hx with h1 | ⟨y, hy, rfl⟩
    · exact ih' x h1
    · rw [hf, hg, ih' y hy, h n (by omega)]

theorem poly_lt : poly < 2 ^ 32 := by decide
theorem step_lt {x : Nat} (h : x < 2 ^ 32) : step x < 2 ^ 32 := by
  unfold step; split
  · exact Nat.xor_lt_two_pow (by omega) poly_lt
  · omega
theorem pw_step_lt {x : Nat} (h : x < 2 ^ 32) (k : Nat) : pw step k x < 2 ^ 32 := by
  induction k with
  | zero => exact h
  | succ k ih => exact step_lt ih


/-- what times adds up, in n rounds -/
def T : Nat → Nat → Nat → Nat
  | 0, _, _ => 0
  | n + 1, a, b => (if b.testBit 31 then a else 0) ^^^ T n (step a) (b * 2 % 2 ^ 32)

theorem shl_xor (b c : Nat) : (b ^^^ c) * 2 % 2 ^ 32 = (b * 2 % 2 ^ 32) ^^^ (c * 2 % 2 ^ 32) := by
  apply Nat.eq_of_testBit_eq; intro i
  have e : ∀ x : Nat, x * 2 = x <<< 1 := fun x => by rw [Nat.shiftLeft_eq]
  rw [e, e, e]
  simp only [Nat.testBit_xor, Nat.testBit_mod_two_pow, Nat.testBit_shiftLeft]
  by_cases h : i < 32 <;> by_cases h1 : i ≥ 1 <;> simp [h, h1]

theorem T_lin_b (n a : Nat) : Lin (T n a) := by
  induction n generalizing a with
  | zero => intro x y; simp [T]
  | succ n ih =>
    intro x y
    simp only [T]
    rw [shl_xor, ih, Nat.testBit_xor, ← xor4]
    congr 1
    cases x.testBit 31 <;> cases y.testBit 31 <;> simp

theorem T_lin_a (n b : Nat) : Lin (fun a => T n a b) := by
  induction n generalizing b with
  | zero => intro x y; simp [T]
  | succ n ih =>
    intro x y
    simp only [T]
    rw [step_lin x y, show T n (step x ^^^ step y) (b * 2 % 2 ^ 32) = T n (step x) (b * 2 % 2 ^ 32) ^^^ T n (step y) (b * 2 % 2 ^ 32) from ih (b * 2 % 2 ^ 32) (step x) (step y), ← xor4]
    congr 1
    cases b.testBit 31 <;> simp

theorem T_zero (n a : Nat) : T n a 0 = 0 := (T_lin_b n a).zero

theorem T_one (a : Nat) : T 32 a (2 ^ 31) = a := by
  show (if (2 ^ 31 : Nat).testBit 31 then a else 0) ^^^ T 31 (step a) (2 ^ 31 * 2 % 2 ^ 32) = a
  rw [show (2 ^ 31 * 2 % 2 ^ 32 : Nat) = 0 from by decide, T_zero, show (2 ^ 31 : Nat).testBit 31 = true from by decide]
  simp

theorem T_step_basis : ∀ i, i < 32 → ∀ j, j < 32 → T 32 (2 ^ j) (step (2 ^ i)) = step (T 32 (2 ^ j) (2 ^ i)) := by
  decide +kernel

theorem T_step {a b : Nat} (ha : a < 2 ^ 32) (hb : b < 2 ^ 32) : T 32 a (step b) = step (T 32 a b) := by
  refine lin_ext (f := fun b => T 32 a (step b)) (g := fun b => step (T 32 a b)) (Lin.comp (T_lin_b 32 a) step_lin) (Lin.comp step_lin (T_lin_b 32 a)) 32 ?_ b hb
  intro i hi
  refine lin_ext (f := fun a => T 32 a (step (2 ^ i))) (g := fun a => step (T 32 a (2 ^ i))) (T_lin_a 32 _) (Lin.comp step_lin (T_lin_a 32 _)) 32 ?_ a ha
  exact fun j hj => T_step_basis i hi j hj

theorem T_pw {a : Nat} (ha : a < 2 ^ 32) (k : Nat) : T 32 a (pw step k (2 ^ 31)) = pw step k a := by
  induction k with
  | zero => exact T_one a
  | succ k ih => show T 32 a (step _) = step _; rw [T_step ha (pw_step_lt (by decide) k), ih]

/-- crc.times, by rounds: a, b, p -/
def tm : Nat → Nat → Nat → Nat → Nat
  | 0, _, _, p => p
  | n + 1, a, b, p => tm n (step a) (b * 2 % 2 ^ 32) (if b / 2 ^ 31 = 1 then p ^^^ a else p)

theorem tm_T (n a b p : Nat) (hb : b < 2 ^ 32) : tm n a b p = p ^^^ T n a b := by
  induction n generalizing a b p with
  | zero => simp [tm, T]
  | succ n ih =>
    simp only [tm, T]
    rw [ih _ _ _ (Nat.mod_lt _ (by decide))]
    have e : b.testBit 31 = decide (b / 2 ^ 31 = 1) := by
      rw [Nat.testBit_eq_decide_div_mod_eq]
      have : b / 2 ^ 31 < 2 := by omega
      congr 1; rw [Nat.mod_eq_of_lt this]
    rw [e]
    by_cases h : b / 2 ^ 31 = 1 <;> simp [h, Nat.xor_assoc]
theorem tm_pw {a : Nat} (ha : a < 2 ^ 32) (k : Nat) : tm 32 a (pw step k (2 ^ 31)) 0 = pw step k a := by
  rw [tm_T _ _ _ _ (pw_step_lt (by decide) k), T_pw ha]; simp

theorem tm_zero (n a p : Nat) : tm n a 0 p = p := by
  rw [tm_T _ _ _ _ (by decide), T_zero]; simp

/-- step on an even number -/
theorem step_even (z : Nat) : step (2 * z) = z := by unfold step; rw [if_neg (by omega)]; omega

theorem pw_even (k z : Nat) : pw step k (2 ^ k * z) = z := by
  induction k generalizing z with
  | zero => simp [pw]
  | succ k ih =>
    rw [pw_succ', show 2 ^ (k + 1) * z = 2 * (2 ^ k * z) from by rw [Nat.pow_succ]; ac_rfl, step_even, ih]

theorem split16 (x : Nat) : x = (16 * (x / 16)) ^^^ (x % 16) := by
  apply Nat.eq_of_testBit_eq; intro i
  have e : 16 * (x / 16) = (x >>> 4) <<< 4 := by rw [Nat.shiftLeft_eq, Nat.shiftRight_eq_div_pow]; omega
  rw [Nat.testBit_xor, e, Nat.testBit_shiftLeft, Nat.testBit_shiftRight, show x % 16 = x % 2 ^ 4 from rfl, Nat.testBit_mod_two_pow]
  by_cases h : i < 4
  · simp [h, show ¬ 4 ≤ i from by omega]
  · have : i ≥ 4 := by omega
    simp [h, this]

/-- half a byte by the table -/
theorem half (x : Nat) : pw step 4 x = (x / 16) ^^^ pw step 4 (x % 16) := by
  conv => lhs; rw [split16 x]
  rw [(step_lin.pw 4), show 16 * (x / 16) = 2 ^ 4 * (x / 16) from rfl, pw_even]

theorem byte_two (x : Nat) : pw step 8 x = ((x / 16 ^^^ pw step 4 (x % 16)) / 16) ^^^ pw step 4 ((x / 16 ^^^ pw step 4 (x % 16)) % 16) := by
  rw [← half x, ← half, ← pw_add]

/-- what bytes make of a register -/
def byte (x c : Nat) : Nat := pw step 8 (x ^^^ c)
def run (x : Nat) (l : List Nat) : Nat := l.foldl byte x
theorem run_nil (x : Nat) : run x [] = x := by unfold run; rw [List.foldl_nil]
theorem run_cons (x c : Nat) (l : List Nat) : run x (c :: l) = run (byte x c) l := by unfold run; rw [List.foldl_cons]
theorem run_append (x : Nat) (l m : List Nat) : run x (l ++ m) = run (run x l) m := by
  unfold run; rw [List.foldl_append]
def mask : Nat := 4294967295
def ext (s : Nat) (l : List Nat) : Nat := run (s ^^^ mask) l ^^^ mask

/-- bytes as one number, the lowest first -/
def le : List Nat → Nat
  | [] => 0
  | c :: l => c ^^^ (2 ^ 8 * le l)

theorem run_le (x : Nat) (l : List Nat) : run x l = pw step (8 * l.length) (x ^^^ le l) := by
  induction l generalizing x with
  | nil => simp [run_nil, le, pw]
  | cons c l ih =>
    rw [run_cons, ih, byte, List.length_cons, show 8 * (l.length + 1) = 8 * l.length + 8 from by omega, pw_add]
    congr 1
    rw [le, ← Nat.xor_assoc, (step_lin.pw 8) (x ^^^ c) (2 ^ 8 * le l), pw_even 8]

theorem run_xor (x d : Nat) (l : List Nat) : run (x ^^^ d) l = run x l ^^^ pw step (8 * l.length) d := by
  rw [run_le, run_le, ← (step_lin.pw _)]; congr 1; rw [Nat.xor_assoc, Nat.xor_comm d, ← Nat.xor_assoc]

theorem xx (a b : Nat) : a ^^^ b ^^^ b = a := by rw [Nat.xor_assoc]; simp

/-- the sum of a whole out of its parts -/
theorem ext_append (s : Nat) (l m : List Nat) : ext s (l ++ m) = ext (ext s l) m := by
  unfold ext; rw [run_append, xx]

theorem ext_join (l m : List Nat) : ext 0 (l ++ m) = pw step (8 * m.length) (ext 0 l) ^^^ ext 0 m := by
  rw [ext_append]
  show ext (ext 0 l) m = _
  generalize ext 0 l = s
  unfold ext
  rw [Nat.zero_xor, Nat.xor_comm s mask, run_xor, Nat.xor_comm (run mask m), Nat.xor_assoc]

/-- step loses nothing -/
theorem step_inj {x y : Nat} (hx : x < 2 ^ 32) (hy : y < 2 ^ 32) (h : step x = step y) : x = y := by
  have key : ∀ z, z < 2 ^ 32 → step z = 0 → z = 0 := by
    intro z hz h0
    unfold step at h0
    split at h0
    · have : z / 2 = poly := by
        have := congrArg (· ^^^ poly) h0
        simpa [xx] using this
      unfold poly at this; omega
    · omega
  have h1 : step (x ^^^ y) = 0 := by rw [step_lin, h]; simp
  have h2 := key _ (Nat.xor_lt_two_pow hx hy) h1
  have := congrArg (· ^^^ y) h2
  simpa [xx] using this

theorem pw_inj {x y : Nat} (k : Nat) (hx : x < 2 ^ 32) (hy : y < 2 ^ 32) (h : pw step k x = pw step k y) : x = y := by
  induction k with
  | zero => exact h
  | succ k ih => exact ih (step_inj (pw_step_lt hx k) (pw_step_lt hy k) h)
end Go.Proofs.Ytghajggnakhobaa.Crc
