/- Several texts laid together (wip/tools/merge2.py): Math, HExtend, Pf23, Pf22, Pf43, Pf35, Pf24, RefSum, HHash. -/
import Derived.Test.YtbjlfenappnccaaMO1
import Derived.Laws.BitsAllLaws
import Derived.Outline
import Derived.Says
import Derived.Lib.ConvBytes
section
/- The sums of layer 1 as plain numbers: one step of the register, its powers, what bytes make of it; no program in sight. -/
namespace Go.Proofs.Ytbjlfenappnccaa.Crc
def poly : Nat := 0x82F63B78
def step (x : Nat) : Nat := if x % 2 = 1 then (x / 2) ^^^ poly else x / 2

def Lin (f : Nat → Nat) : Prop := ∀ x y, f (x ^^^ y) = f x ^^^ f y

theorem div2_xor (x y : Nat) : (x ^^^ y) / 2 = (x / 2) ^^^ (y / 2) := by
  apply Nat.eq_of_testBit_eq; intro i
  simp [Nat.testBit_xor, Nat.testBit_div_two]

theorem mod2_xor (x y : Nat) : (x ^^^ y) % 2 = (x % 2 + y % 2) % 2 := by
  have h : (x ^^^ y).testBit 0 = (x.testBit 0 != y.testBit 0) := Nat.testBit_xor ..
  simp only [Nat.testBit_zero] at h
  rcases Nat.mod_two_eq_zero_or_one x with hx | hx <;> rcases Nat.mod_two_eq_zero_or_one y with hy | hy <;> rcases Nat.mod_two_eq_zero_or_one (x ^^^ y) with hz | hz <;> simp [hx, hy, hz] at h ⊢

theorem step_lin : Lin step := by
  intro x y
  unfold step
  rw [div2_xor, mod2_xor]
  rcases Nat.mod_two_eq_zero_or_one x with hx | hx <;> rcases Nat.mod_two_eq_zero_or_one y with hy | hy <;> simp [hx, hy]
  · rw [Nat.xor_assoc]
  · rw [Nat.xor_assoc, Nat.xor_comm (y/2), ← Nat.xor_assoc]
  · rw [show x / 2 ^^^ poly ^^^ (y / 2 ^^^ poly) = (x/2 ^^^ y/2) ^^^ (poly ^^^ poly) from by
      apply Nat.eq_of_testBit_eq; intro i; simp [Nat.testBit_xor]; cases (x/2).testBit i <;> cases (y/2).testBit i <;> cases poly.testBit i <;> rfl]
    simp

theorem Lin.zero {f} (h : Lin f) : f 0 = 0 := by
  have := h 0 0
  simpa using this

theorem Lin.comp {f g} (hf : Lin f) (hg : Lin g) : Lin (fun x => f (g x)) := fun x y => by
  show f (g (x ^^^ y)) = _
  rw [hg, hf]

theorem xor4 (a b c d : Nat) : (a ^^^ b) ^^^ (c ^^^ d) = (a ^^^ c) ^^^ (b ^^^ d) := by
  rw [Nat.xor_assoc, Nat.xor_assoc, ← Nat.xor_assoc b, Nat.xor_comm b c, Nat.xor_assoc c]

theorem Lin.xor {f g} (hf : Lin f) (hg : Lin g) : Lin (fun x => f x ^^^ g x) := fun x y => by
  show f (x ^^^ y) ^^^ g (x ^^^ y) = _
  rw [hf, hg, xor4]

def pw (f : Nat → Nat) : Nat → Nat → Nat
  | 0, x => x
  | k + 1, x => f (pw f k x)

theorem Lin.pw {f} (hf : Lin f) (k : Nat) : Lin (pw f k) := by
  induction k with
  | zero => intro x y; rfl
  | succ k ih => exact Lin.comp (f := f) (g := Go.Proofs.Ytbjlfenappnccaa.Crc.pw f k) hf ih

theorem pw_add (f : Nat → Nat) (a b x : Nat) : pw f (a + b) x = pw f a (pw f b x) := by
  induction a with
  | zero => rw [Nat.zero_add]; rfl
  | succ a ih => rw [Nat.succ_add]; show f _ = f _; rw [ih]

theorem pw_succ' (f : Nat → Nat) (k x : Nat) : pw f (k + 1) x = pw f k (f x) := pw_add f k 1 x

/-- a number below 2^(n+1) by its highest bit -/
theorem top_bit (n x : Nat) (h : x < 2 ^ (n + 1)) : x < 2 ^ n ∨ ∃ y, y < 2 ^ n ∧ x = y ^^^ 2 ^ n := by
  by_cases hx : x < 2 ^ n
  · exact .inl hx
  · refine .inr ⟨x - 2 ^ n, by rw [Nat.pow_succ] at h; omega, ?_⟩
    have hy : x - 2 ^ n < 2 ^ n := by rw [Nat.pow_succ] at h; omega
    have := Nat.two_pow_add_eq_or_of_lt hy 1
    apply Nat.eq_of_testBit_eq; intro i
    have e : x = 2 ^ n + (x - 2 ^ n) := by omega
    rw [Nat.testBit_xor, Nat.testBit_two_pow]
    by_cases hi : n = i
    · subst hi
      rw [e]
      simp only [Nat.testBit_two_pow_add_eq]
      simp [Nat.testBit_lt_two_pow hy]
    · by_cases hlt : i < n
      · rw [e]; rw [Nat.testBit_two_pow_add_gt hlt]; simp [hi]
      · have hgt : n < i := by omega
        have h1 : x.testBit i = false := Nat.testBit_lt_two_pow (Nat.lt_of_lt_of_le h (Nat.pow_le_pow_right (by decide) hgt))
        have h2 : (x - 2 ^ n).testBit i = false := Nat.testBit_lt_two_pow (Nat.lt_of_lt_of_le hy (Nat.pow_le_pow_right (by decide) (by omega)))
        rw [h1, h2]; simp [hi]

theorem lin_ext {f g : Nat → Nat} (hf : Lin f) (hg : Lin g) (n : Nat) (h : ∀ i, i < n → f (2 ^ i) = g (2 ^ i)) : ∀ x, x < 2 ^ n → f x = g x := by
  induction n with
  | zero => intro x hx; obtain rfl : x = 0 := by simp at hx; exact hx
            rw [hf.zero, hg.zero]
  | succ n ih =>
    intro x hx
    have ih' := ih (fun i hi => h i (by omega))
    rcases top_bit n x hx with h1 | ⟨y, hy, rfl⟩
    · exact ih' x h1
    · rw [hf, hg, ih' y hy, h n (by omega)]

theorem poly_lt : poly < 2 ^ 32 := by decide
theorem step_lt {x : Nat} (h : x < 2 ^ 32) : step x < 2 ^ 32 := by
  unfold step; split
  · exact Nat.xor_lt_two_pow (by omega) poly_lt
  · omega
theorem pw_step_lt {x : Nat} (h : x < 2 ^ 32) (k : Nat) : pw step k x < 2 ^ 32 := by
  induction k with
  | zero => exact h
  | succ k ih => exact step_lt ih


/-- what times adds up, in n rounds -/
def T : Nat → Nat → Nat → Nat
  | 0, _, _ => 0
  | n + 1, a, b => (if b.testBit 31 then a else 0) ^^^ T n (step a) (b * 2 % 2 ^ 32)

theorem shl_xor (b c : Nat) : (b ^^^ c) * 2 % 2 ^ 32 = (b * 2 % 2 ^ 32) ^^^ (c * 2 % 2 ^ 32) := by
  apply Nat.eq_of_testBit_eq; intro i
  have e : ∀ x : Nat, x * 2 = x <<< 1 := fun x => by rw [Nat.shiftLeft_eq]
  rw [e, e, e]
  simp only [Nat.testBit_xor, Nat.testBit_mod_two_pow, Nat.testBit_shiftLeft]
  by_cases h : i < 32 <;> by_cases h1 : i ≥ 1 <;> simp [h, h1]

theorem T_lin_b (n a : Nat) : Lin (T n a) := by
  induction n generalizing a with
  | zero => intro x y; simp [T]
  | succ n ih =>
    intro x y
    simp only [T]
    rw [shl_xor, ih, Nat.testBit_xor, ← xor4]
    congr 1
    cases x.testBit 31 <;> cases y.testBit 31 <;> simp

theorem T_lin_a (n b : Nat) : Lin (fun a => T n a b) := by
  induction n generalizing b with
  | zero => intro x y; simp [T]
  | succ n ih =>
    intro x y
    simp only [T]
    rw [step_lin x y, show T n (step x ^^^ step y) (b * 2 % 2 ^ 32) = T n (step x) (b * 2 % 2 ^ 32) ^^^ T n (step y) (b * 2 % 2 ^ 32) from ih (b * 2 % 2 ^ 32) (step x) (step y), ← xor4]
    congr 1
    cases b.testBit 31 <;> simp

theorem T_zero (n a : Nat) : T n a 0 = 0 := (T_lin_b n a).zero

theorem T_one (a : Nat) : T 32 a (2 ^ 31) = a := by
  show (if (2 ^ 31 : Nat).testBit 31 then a else 0) ^^^ T 31 (step a) (2 ^ 31 * 2 % 2 ^ 32) = a
  rw [show (2 ^ 31 * 2 % 2 ^ 32 : Nat) = 0 from by decide, T_zero, show (2 ^ 31 : Nat).testBit 31 = true from by decide]
  simp

theorem T_step_basis : ∀ i, i < 32 → ∀ j, j < 32 → T 32 (2 ^ j) (step (2 ^ i)) = step (T 32 (2 ^ j) (2 ^ i)) := by
  decide +kernel

theorem T_step {a b : Nat} (ha : a < 2 ^ 32) (hb : b < 2 ^ 32) : T 32 a (step b) = step (T 32 a b) := by
  refine lin_ext (f := fun b => T 32 a (step b)) (g := fun b => step (T 32 a b)) (Lin.comp (T_lin_b 32 a) step_lin) (Lin.comp step_lin (T_lin_b 32 a)) 32 ?_ b hb
  intro i hi
  refine lin_ext (f := fun a => T 32 a (step (2 ^ i))) (g := fun a => step (T 32 a (2 ^ i))) (T_lin_a 32 _) (Lin.comp step_lin (T_lin_a 32 _)) 32 ?_ a ha
  exact fun j hj => T_step_basis i hi j hj

theorem T_pw {a : Nat} (ha : a < 2 ^ 32) (k : Nat) : T 32 a (pw step k (2 ^ 31)) = pw step k a := by
  induction k with
  | zero => exact T_one a
  | succ k ih => show T 32 a (step _) = step _; rw [T_step ha (pw_step_lt (by decide) k), ih]

/-- crc.times, by rounds: a, b, p -/
def tm : Nat → Nat → Nat → Nat → Nat
  | 0, _, _, p => p
  | n + 1, a, b, p => tm n (step a) (b * 2 % 2 ^ 32) (if b / 2 ^ 31 = 1 then p ^^^ a else p)

theorem tm_T (n a b p : Nat) (hb : b < 2 ^ 32) : tm n a b p = p ^^^ T n a b := by
  induction n generalizing a b p with
  | zero => simp [tm, T]
  | succ n ih =>
    simp only [tm, T]
    rw [ih _ _ _ (Nat.mod_lt _ (by decide))]
    have e : b.testBit 31 = decide (b / 2 ^ 31 = 1) := by
      rw [Nat.testBit_eq_decide_div_mod_eq]
      have : b / 2 ^ 31 < 2 := by omega
      congr 1; rw [Nat.mod_eq_of_lt this]
    rw [e]
    by_cases h : b / 2 ^ 31 = 1 <;> simp [h, Nat.xor_assoc]
theorem tm_pw {a : Nat} (ha : a < 2 ^ 32) (k : Nat) : tm 32 a (pw step k (2 ^ 31)) 0 = pw step k a := by
  rw [tm_T _ _ _ _ (pw_step_lt (by decide) k), T_pw ha]; simp

theorem tm_zero (n a p : Nat) : tm n a 0 p = p := by
  rw [tm_T _ _ _ _ (by decide), T_zero]; simp

/-- step on an even number -/
theorem step_even (z : Nat) : step (2 * z) = z := by unfold step; rw [if_neg (by omega)]; omega

theorem pw_even (k z : Nat) : pw step k (2 ^ k * z) = z := by
  induction k generalizing z with
  | zero => simp [pw]
  | succ k ih =>
    rw [pw_succ', show 2 ^ (k + 1) * z = 2 * (2 ^ k * z) from by rw [Nat.pow_succ]; ac_rfl, step_even, ih]

theorem split16 (x : Nat) : x = (16 * (x / 16)) ^^^ (x % 16) := by
  apply Nat.eq_of_testBit_eq; intro i
  have e : 16 * (x / 16) = (x >>> 4) <<< 4 := by rw [Nat.shiftLeft_eq, Nat.shiftRight_eq_div_pow]; omega
  rw [Nat.testBit_xor, e, Nat.testBit_shiftLeft, Nat.testBit_shiftRight, show x % 16 = x % 2 ^ 4 from rfl, Nat.testBit_mod_two_pow]
  by_cases h : i < 4
  · simp [h, show ¬ 4 ≤ i from by omega]
  · have : i ≥ 4 := by omega
    simp [h, this]

/-- half a byte by the table -/
theorem half (x : Nat) : pw step 4 x = (x / 16) ^^^ pw step 4 (x % 16) := by
  conv => lhs; rw [split16 x]
  rw [(step_lin.pw 4), show 16 * (x / 16) = 2 ^ 4 * (x / 16) from rfl, pw_even]

theorem byte_two (x : Nat) : pw step 8 x = ((x / 16 ^^^ pw step 4 (x % 16)) / 16) ^^^ pw step 4 ((x / 16 ^^^ pw step 4 (x % 16)) % 16) := by
  rw [← half x, ← half, ← pw_add]

/-- what bytes make of a register -/
def byte (x c : Nat) : Nat := pw step 8 (x ^^^ c)
def run (x : Nat) (l : List Nat) : Nat := l.foldl byte x
theorem run_nil (x : Nat) : run x [] = x := by unfold run; rw [List.foldl_nil]
theorem run_cons (x c : Nat) (l : List Nat) : run x (c :: l) = run (byte x c) l := by unfold run; rw [List.foldl_cons]
theorem run_append (x : Nat) (l m : List Nat) : run x (l ++ m) = run (run x l) m := by
  unfold run; rw [List.foldl_append]
def mask : Nat := 4294967295
def ext (s : Nat) (l : List Nat) : Nat := run (s ^^^ mask) l ^^^ mask

/-- bytes as one number, the lowest first -/
def le : List Nat → Nat
  | [] => 0
  | c :: l => c ^^^ (2 ^ 8 * le l)

theorem run_le (x : Nat) (l : List Nat) : run x l = pw step (8 * l.length) (x ^^^ le l) := by
  induction l generalizing x with
  | nil => simp [run_nil, le, pw]
  | cons c l ih =>
    rw [run_cons, ih, byte, List.length_cons, show 8 * (l.length + 1) = 8 * l.length + 8 from by omega, pw_add]
    congr 1
    rw [le, ← Nat.xor_assoc, (step_lin.pw 8) (x ^^^ c) (2 ^ 8 * le l), pw_even 8]

theorem run_xor (x d : Nat) (l : List Nat) : run (x ^^^ d) l = run x l ^^^ pw step (8 * l.length) d := by
  rw [run_le, run_le, ← (step_lin.pw _)]; congr 1; rw [Nat.xor_assoc, Nat.xor_comm d, ← Nat.xor_assoc]

theorem xx (a b : Nat) : a ^^^ b ^^^ b = a := by rw [Nat.xor_assoc]; simp

/-- the sum of a whole out of its parts -/
theorem ext_append (s : Nat) (l m : List Nat) : ext s (l ++ m) = ext (ext s l) m := by
  unfold ext; rw [run_append, xx]

theorem ext_join (l m : List Nat) : ext 0 (l ++ m) = pw step (8 * m.length) (ext 0 l) ^^^ ext 0 m := by
  rw [ext_append]
  show ext (ext 0 l) m = _
  generalize ext 0 l = s
  unfold ext
  rw [Nat.zero_xor, Nat.xor_comm s mask, run_xor, Nat.xor_comm (run mask m), Nat.xor_assoc]

/-- step loses nothing -/
theorem step_inj {x y : Nat} (hx : x < 2 ^ 32) (hy : y < 2 ^ 32) (h : step x = step y) : x = y := by
  have key : ∀ z, z < 2 ^ 32 → step z = 0 → z = 0 := by
    intro z hz h0
    unfold step at h0
    split at h0
    · have : z / 2 = poly := by
        have := congrArg (· ^^^ poly) h0
        simpa [xx] using this
      unfold poly at this; omega
    · omega
  have h1 : step (x ^^^ y) = 0 := by rw [step_lin, h]; simp
  have h2 := key _ (Nat.xor_lt_two_pow hx hy) h1
  have := congrArg (· ^^^ y) h2
  simpa [xx] using this

theorem pw_inj {x y : Nat} (k : Nat) (hx : x < 2 ^ 32) (hy : y < 2 ^ 32) (h : pw step k x = pw step k y) : x = y := by
  induction k with
  | zero => exact h
  | succ k ih => exact ih (step_inj (pw_step_lt hx k) (pw_step_lt hy k) h)
end Go.Proofs.Ytbjlfenappnccaa.Crc

end
section
/- crc.Extend: what bytes make of a register, by the table of half bytes; contracts by hand. -/
namespace Go.Proofs.Ytbjlfenappnccaa.Hand
open Go.RowKit Go.Proofs.YtbjlfenappnccaaW.PrintWords Go.Proofs.YtbjlfenappnccaaW.PrintLast Go.Proofs.Ytbjlfenappnccaa.P
set_option linter.unusedVariables false
set_option linter.unusedSimpArgs false

theorem b_and1 (x : Nat) (hx : x < 2 ^ 32) : Go.bits .and .u32 (x : Int) 1 = ((x % 2 : Nat) : Int) := by
  have := u32_and_nat x 1 (by omega) (by omega)
  rw [Nat.and_one_is_mod] at this
  exact this
theorem b_and15 (x : Nat) (hx : x < 2 ^ 32) : Go.bits .and .u32 (x : Int) 15 = ((x % 16 : Nat) : Int) := by
  have := u32_and_nat x 15 (by omega) (by omega)
  rw [show (15 : Nat) = 2 ^ 4 - 1 from rfl, Nat.and_two_pow_sub_one_eq_mod] at this
  exact this
theorem b_xor (x y : Nat) (hx : x < 2 ^ 32) (hy : y < 2 ^ 32) : Go.bits .xor .u32 (x : Int) (y : Int) = ((x ^^^ y : Nat) : Int) := u32_xor_nat x y (by omega) (by omega)

set_option maxHeartbeats 400000 in
theorem step_any (x : Nat) (hx : x < 2 ^ 32) (w : World) : Calls Try.prog 64 #[.int .u32 (x : Int)] w fun e w' => e = .returned (.int .u32 (Crc.step x : Nat)) ∧ w = w' := by
  have hx' : (x : Int) < 4294967296 := by omega
  have h1 := b_and1 x hx
  rcases Nat.mod_two_eq_zero_or_one x with h | h
  · have hb : (Go.bits .and .u32 (x : Int) 1 == 1) = false := by rw [h1, h]; rfl
    have hs : Crc.step x = x / 2 := by unfold Crc.step; rw [if_neg (by omega)]
    have HS := Aside0.mk hs
    clear h1 hs h hx
    go_enter Try.func64, Try.ntmps64
    go_wp2
    go_ret
    exact ⟨by rw [HS.out]; simp, rfl⟩
  · have hb : (Go.bits .and .u32 (x : Int) 1 == 1) = true := by rw [h1, h]; rfl
    have hs : Crc.step x = x / 2 ^^^ Crc.poly := by unfold Crc.step; rw [if_pos h]
    have hxor := b_xor (x / 2) Crc.poly (by omega) Crc.poly_lt
    have HS := Aside0.mk hs
    have HX := Aside0.mk hxor
    clear h1 hs h hx hxor
    go_enter Try.func64, Try.ntmps64
    go_wp2
    go_ret
    refine ⟨?_, rfl⟩
    rw [HS.out, ← HX.out]
    rfl

def tab (j : Nat) : Nat := Crc.pw Crc.step 4 j
theorem tab_lt (j : Nat) (h : j < 16) : tab j < 2 ^ 32 := Crc.pw_step_lt (by omega) 4
/-- the table, i of its places filled -/
def tcells (i : Nat) : Array Value := ((List.range 16).map fun j => Value.int .u32 (if j < i then (tab j : Nat) else 0 : Int)).toArray
theorem tcells_size (i : Nat) : (tcells i).size = 16 := by simp [tcells]
theorem tcells_get (i j : Nat) (h : j < 16) : (tcells i)[j]? = some (Value.int .u32 (if j < i then (tab j : Nat) else 0 : Int)) := by
  simp [tcells, h]
theorem tcells_set (i : Nat) (h : i < 16) : (tcells i).setIfInBounds i (Value.int .u32 (tab i : Nat)) = tcells (i + 1) := by
  apply Array.ext_getElem?
  intro j
  rw [Array.getElem?_setIfInBounds]
  by_cases hj : j < 16
  · rw [tcells_get _ _ hj, tcells_get _ _ hj]
    by_cases e : i = j
    · subst e; simp [tcells_size, h]
    · simp only [if_neg e]
      by_cases h2 : j < i
      · rw [if_pos h2, if_pos (by omega)]
      · rw [if_neg h2, if_neg (by omega)]
  · have : ∀ k, (tcells k)[j]? = none := fun k => by rw [Array.getElem?_eq_none]; rw [tcells_size]; omega
    rw [this, this]
    split
    · omega
    · rfl
theorem tcells_zero : tcells 0 = #[.int .u32 0, .int .u32 0, .int .u32 0, .int .u32 0, .int .u32 0, .int .u32 0, .int .u32 0, .int .u32 0, .int .u32 0, .int .u32 0, .int .u32 0, .int .u32 0, .int .u32 0, .int .u32 0, .int .u32 0, .int .u32 0] := by
  simp [tcells, List.range, List.range.loop]
def tagg : Value := .agg (tcells 16)

theorem tcells_one : (tcells 16).all (·.oneCell') = true := by
  simp [tcells, Value.oneCell']
theorem below_setRow {B : Nat} {w W : World} (h : Below B w W) {g : Nat} (hg : B ≤ g) (cs : Array Value) : Below B w (W.setRow g cs) :=
  ⟨h.os, h.tape, h.output, by rw [size_setRow]; exact h.size, fun i hi => (setRow_other W g i cs (by omega)).trans (h.block i hi)⟩
theorem info61 : (Try.prog.info? 67).map (·.size) = some (tcells 16).size := by rw [tcells_size]; kernel_rfl
set_option maxHeartbeats 1000000 in
theorem sums_any (w : World) : Calls Try.prog 42 #[] w fun e w' => e = .returned tagg ∧ Below w.heap.size w w' := by
  go_enter Try.func42, Try.ntmps42
  go_wp2_with fail
  rw [← tcells_zero]
  go_loopw [4] (fun v wr => ∃ i : Nat, i ≤ 16 ∧ v = .int .i64 i ∧ wr.heap[w.heap.size]? = some (.cells (tcells 0) 67 (0, 0)) ∧ wr.heap[w.heap.size + 1]? = some (.cells (tcells i) 67 (0, 0)) ∧ Aside0 (Below w.heap.size w wr)) (fun v _ => 16 - (intOf v).toNat)
  case atStart => exact ⟨0, by omega, rfl, heap_alloc2_old w _ _, heap_alloc2_new w _ _, ⟨((Below.refl _ _).alloc (Nat.le_refl _) _).alloc (by simp) _⟩⟩
  case round =>
    obtain ⟨i, hi, rfl, hb0, hb1, hB⟩ := hrel
    by_cases hlt : i < 16
    · have ht := tab_lt i hlt
      have hcell : wr.cell? ⟨w.heap.size + 1, i, none⟩ = some (.int .u32 0) := by
        rw [cell_of_row wr _ _ _ _ _ hb1, tcells_get _ _ hlt, if_neg (by omega)]
      have hfr := frozen_of_row wr (w.heap.size + 1) i _ _ hb1
      have hn1 := heap_setCell_same wr (w.heap.size + 1) i _ _ (.int .u32 (tab i : Nat)) hb1
      rw [tcells_set i hlt] at hn1
      have hn0 := (heap_setCell_other wr ⟨w.heap.size + 1, i, none⟩ w.heap.size (.int .u32 (tab i : Nat)) (by simp)).trans hb0
      have hBn : Aside0 (Below w.heap.size w (wr.setCell ⟨w.heap.size + 1, i, none⟩ (.int .u32 (tab i : Nat)))) := ⟨hB.out.setCell (by simp) _⟩
      have HN1 := Aside0.mk hn1
      have HN0 := Aside0.mk hn0
      have HT := Aside0.mk ht
      clear hn1 hn0 hb0 hb1 ht
      have hd16 : decide ((i : Int) < 16) = true := by simp; omega
      have hw32 : IntKind.u32.wrap (i : Int) = i := by rw [IntKind.wrap_u32]; omega
      go_wp2_with fail
      go_loop [3, 9] (fun x k => ∃ n : Nat, n ≤ 4 ∧ k = .int .i64 n ∧ x = .int .u32 (Crc.pw Crc.step n i : Nat)) (fun _ k => 4 - (intOf k).toNat)
      case atStart => exact ⟨0, by omega, rfl, rfl⟩
      case round =>
        obtain ⟨n, hn, rfl, rfl⟩ := hrel
        by_cases hl4 : n < 4
        · have hs := Crc.pw_step_lt (x := i) (by omega) n
          go_wp2_with (go_at_call 64; refine (step_any _ hs _).mono ?_; rintro e w' ⟨rfl, rfl⟩)
          go_round
          case rel => exact ⟨n + 1, by omega, by go_num, rfl⟩
          case measure => simp [intOf]; omega
        · obtain rfl : n = 4 := by omega
          go_wp2_with fail
          go_roundw
          case rel => exact ⟨i + 1, by omega, by go_num, HN0.out, HN1.out, hBn⟩
          case measure => simp [intOf]; omega
    · obtain rfl : i = 16 := by omega
      have hfin := setRow_heap wr w.heap.size _ (tcells 16) _ _ hb0
      have hsz : (tcells 0).size = (tcells 16).size := by rw [tcells_size, tcells_size]
      have hone : (tcells 16).all (·.oneCell') = true := tcells_one
      have hBf : Aside0 (Below w.heap.size w (wr.setRow w.heap.size (tcells 16))) := ⟨below_setRow hB.out (Nat.le_refl _) _⟩
      have HF := Aside0.mk hfin
      clear hfin
      go_wp2_with (first | (refine wpList_load_row rfl 67 _ rfl (w.heap.size + 1) rfl 67 _ _ _ hb1 Try.underlying67 rfl info61 ?_) | (refine wpList_store_row rfl 67 _ _ rfl w.heap.size (tcells 16) rfl rfl 67 _ hb0 info61 hsz hone ?_))
      refine bodyPost_ret (results_cell_row rfl _ _ w.heap.size 67 _ _ _ rfl HF.out Try.underlying67 rfl info61) rfl ⟨rfl, hBf.out⟩

/-- a number as a register has it -/
def n32 (z : Int) : Nat := (z % 4294967296).toNat
theorem n32_lt (z : Int) : n32 z < 2 ^ 32 := by unfold n32; omega
theorem n32_nat (n : Nat) (h : n < 2 ^ 32) : n32 (n : Int) = n := by unfold n32; omega
theorem wrap_u32_eq (z : Int) : IntKind.u32.wrap z = (n32 z : Int) := by rw [IntKind.wrap_u32]; unfold n32; omega
theorem bits_xor_any (a b : Int) : Go.bits .xor .u32 a b = ((n32 a ^^^ n32 b : Nat) : Int) := by
  have h : ∀ z : Int, (BitVec.ofInt 32 z).toNat = n32 z := fun z => by rw [BitVec.toNat_ofInt]; unfold n32; omega
  have hx : n32 a ^^^ n32 b < 2 ^ 32 := Nat.xor_lt_two_pow (n32_lt a) (n32_lt b)
  show IntKind.u32.wrap ((BitVec.ofInt 32 a ^^^ BitVec.ofInt 32 b).toNat : Int) = _
  rw [BitVec.toNat_xor, h, h, IntKind.wrap_u32]
  omega
theorem run_lt (x : Nat) (l : List Nat) (hx : x < 2 ^ 32) (hl : ∀ c ∈ l, c < 2 ^ 32) : Crc.run x l < 2 ^ 32 := by
  induction l generalizing x with
  | nil => rw [Crc.run_nil]; exact hx
  | cons c l ih =>
    rw [Crc.run_cons]
    exact ih _ (Crc.pw_step_lt (Nat.xor_lt_two_pow hx (hl c (by simp))) 8) (fun d hd => hl d (by simp [hd]))
/-- what crc.Extend answers -/
def extI (s : Int) (l : List Int) : Int := (Crc.ext (n32 s) (l.map n32) : Nat)
def crc_Extend.f (a0 : Int) (l1 : List Int) : Option Int := some (extI a0 l1)
/-- the register behind j bytes -/
def reg (s : Int) (l : List Int) (j : Nat) : Nat := Crc.run (n32 s ^^^ Crc.mask) ((l.take j).map n32)
theorem mask_lt : Crc.mask < 2 ^ 32 := by decide
theorem reg_lt (s : Int) (l : List Int) (j : Nat) : reg s l j < 2 ^ 32 :=
  run_lt _ _ (Nat.xor_lt_two_pow (n32_lt s) mask_lt) (fun c hc => by obtain ⟨z, _, rfl⟩ := List.mem_map.1 hc; exact n32_lt z)
theorem reg_succ (s : Int) (l : List Int) (j : Nat) (h : j < l.length) : reg s l (j + 1) = Crc.byte (reg s l j) (n32 (rd l j)) := by
  unfold reg
  have e : rd l (j : Int) = l[j] := by
    unfold rd
    rw [Int.toNat_natCast, List.getD_eq_getElem?_getD, List.getElem?_eq_getElem h]
    rfl
  rw [List.take_succ_eq_append_getElem h, List.map_append, Crc.run_append, e]
  rfl
theorem byte_tab (x c : Nat) (hx : x < 2 ^ 32) (hc : c < 2 ^ 32) : Crc.byte x c = (((x ^^^ c) / 16 ^^^ tab ((x ^^^ c) % 16)) / 16) ^^^ tab (((x ^^^ c) / 16 ^^^ tab ((x ^^^ c) % 16)) % 16) := Crc.byte_two _

set_option maxHeartbeats 1000000 in
theorem crc_Extend.calls (a0 : Int) (A1 : Option Addr) (c1 : Nat) (l1 : List Int) (r : Int) (w : World) (hr1 : Kd.C (Kd.int .u8) w A1 l1.length l1) (hc1 : l1.length ≤ c1) (h : crc_Extend.f a0 l1 = some r) :
    Calls Try.prog 34 #[.int .u32 a0, .slice A1 l1.length c1] w fun e w' => e = .returned (.int .u32 r) ∧ Below w.heap.size w w' := by
  obtain rfl := Option.some.inj h
  clear h
  have HR := Aside0.mk hr1
  have hlen : l1.length ≤ 9223372036854775807 := hr1.2.1
  clear hr1
  have hx0 : Go.bits .xor .u32 IntKind.u32.max a0 = ((reg a0 l1 0 : Nat) : Int) := by rw [bits_xor_any, show n32 IntKind.u32.max = Crc.mask from by decide, Nat.xor_comm]; rfl
  go_enter Try.func34, Try.ntmps34
  have hsz : (tcells 0).size = (tcells 16).size := by rw [tcells_size, tcells_size]
  rw [tcells_zero] at hsz
  have hone := tcells_one
  go_wp2_with (first | (go_at_call 42; refine (sums_any _).mono ?_; rintro e w1 ⟨rfl, hB1⟩) | (refine wpList_store_row rfl 67 _ _ rfl w1.heap.size (tcells 16) rfl rfl 67 _ (heap_alloc_new w1 _) info61 hsz hone ?_))
  have hb1 := setRow_heap _ w1.heap.size _ (tcells 16) _ _ (heap_alloc_new w1 (.cells (tcells 0) 67))
  have hBf : Below w.heap.size w ((w1.alloc (.cells (tcells 0) 67)).setRow w1.heap.size (tcells 16)) := below_setRow (hB1.alloc hB1.size _) hB1.size _
  rw [tcells_zero] at hb1 hBf
  generalize (w1.alloc _).setRow w1.heap.size (tcells 16) = W at hb1 hBf ⊢
  have HRW := Aside0.mk (Kd.C_below HR.out hBf)
  have HBF := Aside0.mk hBf
  clear hsz hone hB1 hBf HR
  go_loop [5, 14] (fun x i => ∃ j : Nat, j ≤ l1.length ∧ i = .int .i64 j ∧ x = .int .u32 (reg a0 l1 j : Nat)) (fun _ i => l1.length - (intOf i).toNat)
  case atStart => exact ⟨0, Nat.zero_le _, rfl, rfl⟩
  case round =>
    clear hx0
    obtain ⟨j, hj, rfl, rfl⟩ := hrel
    by_cases hlt : j < l1.length
    · have hd : decide ((j : Int) < (l1.length : Int)) = true := by simp; omega
      have hd' : decide (j < l1.length) = true := by simp; omega
      obtain ⟨ad, rfl, hcell⟩ := Kd.at_int HRW.out (j : Int) (by omega) (by omega)
      rw [Int.toNat_natCast] at hcell
      have hX := reg_lt a0 l1 j
      have hsucc := reg_succ a0 l1 j hlt
      obtain ⟨c, hc⟩ : ∃ c, c = rd l1 (j : Int) := ⟨_, rfl⟩
      rw [← hc] at hcell hsucc
      rw [byte_tab _ _ hX (n32_lt c)] at hsucc
      have hcw := wrap_u32_eq c
      have hC := n32_lt c
      have hY : reg a0 l1 j ^^^ n32 c < 2 ^ 32 := Nat.xor_lt_two_pow hX hC
      have e1 : Go.bits .xor .u32 (reg a0 l1 j : Nat) (n32 c : Nat) = ((reg a0 l1 j ^^^ n32 c : Nat) : Int) := b_xor _ _ hX hC
      obtain ⟨Y, hYe⟩ : ∃ Y, Y = reg a0 l1 j ^^^ n32 c := ⟨_, rfl⟩
      rw [← hYe] at hsucc hY e1
      have e2 := b_and15 Y hY
      have hty := tab_lt (Y % 16) (by omega)
      have cy : W.cell? ⟨w1.heap.size, Y % 16, none⟩ = some (.int .u32 (tab (Y % 16) : Nat)) := by
        rw [cell_of_row W _ _ _ _ _ hb1, tcells_get _ _ (by omega), if_pos (by omega)]
      have hZ : Y / 16 ^^^ tab (Y % 16) < 2 ^ 32 := Nat.xor_lt_two_pow (by omega) hty
      have e3 : Go.bits .xor .u32 ((Y : Int) / 16) (tab (Y % 16) : Nat) = ((Y / 16 ^^^ tab (Y % 16) : Nat) : Int) := b_xor (Y / 16) _ (by omega) hty
      obtain ⟨Z, hZe⟩ : ∃ Z, Z = Y / 16 ^^^ tab (Y % 16) := ⟨_, rfl⟩
      rw [← hZe] at hsucc hZ e3
      have e4 := b_and15 Z hZ
      have htz := tab_lt (Z % 16) (by omega)
      have cz : W.cell? ⟨w1.heap.size, Z % 16, none⟩ = some (.int .u32 (tab (Z % 16) : Nat)) := by
        rw [cell_of_row W _ _ _ _ _ hb1, tcells_get _ _ (by omega), if_pos (by omega)]
      have e5 : Go.bits .xor .u32 ((Z : Int) / 16) (tab (Z % 16) : Nat) = ((Z / 16 ^^^ tab (Z % 16) : Nat) : Int) := b_xor (Z / 16) _ (by omega) htz
      have hY0 : Y < 4294967296 := by omega
      have hZ0 : Z < 4294967296 := by omega
      have y16 : Y % 16 < 16 := by omega
      have z16 : Z % 16 < 16 := by omega
      have HS := Aside0.mk hsucc
      clear hsucc hX hC hY hZ hty htz hc hYe hZe hb1
      go_wp2_with fail
      go_round
      case rel => exact ⟨j + 1, by omega, by go_num, by rw [HS.out]⟩
      case measure => simp [intOf]; omega
    · obtain rfl : j = l1.length := by omega
      have hend : Go.bits .xor .u32 IntKind.u32.max (reg a0 l1 l1.length : Nat) = extI a0 l1 := by
        rw [bits_xor_any, n32_nat _ (reg_lt _ _ _), show n32 IntKind.u32.max = Crc.mask from by decide, Nat.xor_comm]
        unfold extI Crc.ext reg
        rw [List.take_length]
      go_wp2_with fail
      go_ret
      exact ⟨rfl, HBF.out⟩
end Go.Proofs.Ytbjlfenappnccaa.Hand

end
section
-- Written by a program of this session (wip/tools/hprint.py, over the kit's printer), not by hand. Lean checks it.
namespace Go.Proofs.Ytbjlfenappnccaa.P
open Go.RowKit Go.Proofs.YtbjlfenappnccaaW.PrintWords Go.Proofs.YtbjlfenappnccaaW.PrintLast Go.Proofs.YtbjlfenappnccaaW.PrintMore
attribute [local go_sem] max2_int min2_int max_two min_two max_three min_three max_four min_four
set_option linter.unusedVariables false
set_option linter.unusedSimpArgs false

open Go.Proofs.Ytbjlfenappnccaa.Hand
/-! ### crc_Sum: function 23 -/
def crc_Sum.f (l0 : List Int) : Option (Int) := (crc_Extend.f 0 l0).bind fun t101 => (some t101)
set_option maxHeartbeats 8000000 in
set_option maxRecDepth 100000 in
theorem crc_Sum.calls (A0 : Option Addr) (c0 : Nat) (l0 : List Int) (r : Int) (w : World) (hr0 : Kd.C (Kd.int .u8) w A0 l0.length l0) (hc0 : l0.length ≤ c0) (h : crc_Sum.f l0 = some r) :
    Calls Try.prog 23 #[.slice A0 l0.length c0] w fun e w' => e = .returned (.int .u32 r) ∧ Below w.heap.size w w' := by
  have HR0 := Aside0.mk hr0
  have HC0 := Aside0.mk hc0
  clear hr0 hc0
  have HB := Aside0.mk (Below.refl w.heap.size w)
  have H : ((crc_Extend.f 0 l0).bind fun t101 => (some t101)) = some r := h
  clear h
  replace H := Option.bind_eq_some_iff.mp H
  obtain ⟨t101, A20, H⟩ := H
  replace H : (some t101) = some r := H
  have A2 := Aside0.mk A20
  clear A20
  obtain rfl := Option.some.inj H
  go_enter Try.func23, Try.ntmps23
  go_wp2_with (first | ((with_reducible refine gate_callee (f := 34) rfl ?_); refine goesL_ (some 4) rfl rfl Try.func34 (by kernel_rfl) rfl #[.int .u32 0, .slice A0 l0.length c0] rfl (by (try simp only [List.map_toArray, List.map_cons, List.map_nil]); first | done | rfl | (simp only [List.length_drop, List.length_take]; rfl)) ?_; (with_reducible refine (crc_Extend.calls 0 _ _ l0 t101 _ ?side1 ?side2 A2.out).mono ?_); (case side1 => repeat (first | exact HR0.out | (with_reducible refine Kd.C_alloc ?_ _) | (with_reducible refine Kd.C_drewN ?_ _) | (with_reducible refine Kd.C_drew ?_))); (case side2 => exact HC0.out); rintro e w3 ⟨rfl, hb⟩; refine ⟨_, rfl, ?_⟩; have n0_ := Aside0.mk (below_step (by repeat (first | (with_reducible first | exact HB.out | apply below_alloc | apply pw_below_drewN | apply below_drew1) | exact HB.out)) hb); clear HB; have HB := n0_; clear n0_; (try clear hb); (try clear hb2); (try clear hk); (try clear hi)))
  go_ret
  exact ⟨by first | rfl | (simp [errW_none, errW_some] <;> rfl) | (simp [*, errW_none, errW_some] <;> rfl), by repeat (first | (with_reducible first | exact HB.out | apply below_alloc | apply pw_below_drewN | apply below_drew1) | exact HB.out)⟩

end Go.Proofs.Ytbjlfenappnccaa.P

end
section
-- Written by a program of this session (wip/tools/hprint.py, over the kit's printer), not by hand. Lean checks it.
namespace Go.Proofs.Ytbjlfenappnccaa.P
open Go.RowKit Go.Proofs.YtbjlfenappnccaaW.PrintWords Go.Proofs.YtbjlfenappnccaaW.PrintLast Go.Proofs.YtbjlfenappnccaaW.PrintMore
attribute [local go_sem] max2_int min2_int max_two min_two max_three min_three max_four min_four
set_option linter.unusedVariables false
set_option linter.unusedSimpArgs false

/-! ### parts_good: function 22 -/
def parts_good.f (a0 : Int) : Option (Bool) := if a0 ≥ 1 then (some (decide (a0 ≤ 65535))) else (some false)
set_option maxHeartbeats 8000000 in
set_option maxRecDepth 100000 in
theorem parts_good.calls (a0 : Int) (r : Bool) (w : World) (h : parts_good.f a0 = some r) :
    Calls Try.prog 22 #[.int .i64 a0] w fun e w' => e = .returned (.bool r) ∧ Drawn0 w w' := by
  have H : (if a0 ≥ 1 then (some (decide (a0 ≤ 65535))) else (some false)) = some r := h
  clear h
  by_cases c2 : a0 ≥ 1
  · rw [if_pos c2] at H
    have c2b0 : decide (1 ≤ a0) = true := decide_eq_true c2
    clear c2
    obtain rfl := Option.some.inj H
    go_enter Try.func22, Try.ntmps22
    go_wp2
    go_ret
    exact ⟨by first | rfl | (simp; done) | (simp [*]; done), by repeat (first | exact Drawn0.refl _ | apply Drawn0.step)⟩
  · rw [if_neg c2] at H
    have c2b0 : decide (1 ≤ a0) = false := decide_eq_false c2
    clear c2
    obtain rfl := Option.some.inj H
    go_enter Try.func22, Try.ntmps22
    go_wp2
    go_ret
    exact ⟨by first | rfl | (simp; done) | (simp [*]; done), by repeat (first | exact Drawn0.refl _ | apply Drawn0.step)⟩

end Go.Proofs.Ytbjlfenappnccaa.P

end
section
-- Written by a program of this session (wip/tools/hprint.py, over the kit's printer), not by hand. Lean checks it.
namespace Go.Proofs.Ytbjlfenappnccaa.P
open Go.RowKit Go.Proofs.YtbjlfenappnccaaW.PrintWords Go.Proofs.YtbjlfenappnccaaW.PrintLast Go.Proofs.YtbjlfenappnccaaW.PrintMore
attribute [local go_sem] max2_int min2_int max_two min_two max_three min_three max_four min_four
set_option linter.unusedVariables false
set_option linter.unusedSimpArgs false

/-! ### winnowref1_M: function 43 -/
def winnowref1_M.f (a0 : Int) : Option (Int) := if (Int.tmod a0 2) = 1 then (some (Go.bits .xor .u32 (a0 / 2) 2197175160)) else (some (a0 / 2))
set_option maxHeartbeats 8000000 in
set_option maxRecDepth 100000 in
theorem winnowref1_M.calls (a0 : Int) (r : Int) (w : World) (h : winnowref1_M.f a0 = some r) :
    Calls Try.prog 43 #[.int .u32 a0] w fun e w' => e = .returned (.int .u32 r) ∧ Drawn0 w w' := by
  have H : (if (Int.tmod a0 2) = 1 then (some (Go.bits .xor .u32 (a0 / 2) 2197175160)) else (some (a0 / 2))) = some r := h
  clear h
  by_cases c2 : (Int.tmod a0 2) = 1
  · rw [if_pos c2] at H
    have c2b0 : ((Int.tmod a0 2) == 1) = true := beq_iff_eq.mpr c2
    have c2b1 : ((Int.tmod a0 2) != 1) = false := bne_eq_false_iff_eq.mpr c2
    clear c2
    obtain rfl := Option.some.inj H
    go_enter Try.func43, Try.ntmps43
    go_wp2
    go_ret
    exact ⟨by first | rfl | (simp; done) | (simp [*]; done), by repeat (first | exact Drawn0.refl _ | apply Drawn0.step)⟩
  · rw [if_neg c2] at H
    have c2b0 : ((Int.tmod a0 2) == 1) = false := beq_eq_false_iff_ne.mpr c2
    have c2b1 : ((Int.tmod a0 2) != 1) = true := bne_iff_ne.mpr c2
    obtain rfl := Option.some.inj H
    go_enter Try.func43, Try.ntmps43
    go_wp2
    go_ret
    exact ⟨by first | rfl | (simp; done) | (simp [*]; done), by repeat (first | exact Drawn0.refl _ | apply Drawn0.step)⟩

end Go.Proofs.Ytbjlfenappnccaa.P

end
section
-- Written by a program of this session (wip/tools/hprint.py, over the kit's printer), not by hand. Lean checks it.
namespace Go.Proofs.Ytbjlfenappnccaa.P
open Go.RowKit Go.Proofs.YtbjlfenappnccaaW.PrintWords Go.Proofs.YtbjlfenappnccaaW.PrintLast Go.Proofs.YtbjlfenappnccaaW.PrintMore
attribute [local go_sem] max2_int min2_int max_two min_two max_three min_three max_four min_four
set_option linter.unusedVariables false
set_option linter.unusedSimpArgs false

/-! ### winnowref1_Extend: function 35 -/
mutual
def winnowref1_Extend.l0 : Nat → List Int → Int → Int → Option (Int)
  | 0, _, _, _ => none
  | k + 1, x1, x5, x6 => if x6 < (x1.length : Int) then (if 0 ≤ x6 then (winnowref1_Extend.l1 k x1 (Go.bits .xor .u32 x5 ((rd x1 x6) % 4294967296)) x6 0) else (none)) else (some (Go.bits .xor .u32 IntKind.u32.max x5))
def winnowref1_Extend.l1 : Nat → List Int → Int → Int → Int → Option (Int)
  | 0, _, _, _, _ => none
  | k + 1, x1, x5, x6, x7 => if x7 < 8 then ((winnowref1_M.f x5).bind fun t103 => (winnowref1_Extend.l1 k x1 t103 x6 (wrap64 (x7 + 1)))) else (winnowref1_Extend.l0 k x1 x5 (wrap64 (x6 + 1)))
end
def winnowref1_Extend.f (k : Nat) (a0 : Int) (l1 : List Int) : Option (Int) := winnowref1_Extend.l0 k l1 (Go.bits .xor .u32 IntKind.u32.max a0) 0
theorem winnowref1_Extend.mono_l : ∀ k, (∀ y0 y1 y2, LeO (winnowref1_Extend.l0 k y0 y1 y2) (winnowref1_Extend.l0 (k + 1) y0 y1 y2)) ∧ (∀ y0 y1 y2 y3, LeO (winnowref1_Extend.l1 k y0 y1 y2 y3) (winnowref1_Extend.l1 (k + 1) y0 y1 y2 y3))
  | 0 => ⟨fun _ _ _ r h => by simp [winnowref1_Extend.l0] at h, fun _ _ _ _ r h => by simp [winnowref1_Extend.l1] at h⟩
  | k + 1 => by
    obtain ⟨ih0, ih1⟩ := winnowref1_Extend.mono_l k
    refine ⟨?_, ?_⟩
    · intro y0 y1 y2
      unfold winnowref1_Extend.l0
      repeat' first
      | (with_reducible exact ih0 _ _ _)
      | (with_reducible exact ih1 _ _ _ _)
      | (with_reducible exact LeO.refl _)
      | (with_reducible exact LeO.none _)
      | (with_reducible refine LeO.ite ?_ ?_)
      | (with_reducible refine LeO.bind ?_ (fun _ => ?_))
      | exact ih0 _ _ _
      | exact ih1 _ _ _ _
      | exact LeO.none _
      | refine LeO.ite ?_ ?_
      | refine LeO.bind ?_ (fun _ => ?_)
    · intro y0 y1 y2 y3
      unfold winnowref1_Extend.l1
      repeat' first
      | (with_reducible exact ih0 _ _ _)
      | (with_reducible exact ih1 _ _ _ _)
      | (with_reducible exact LeO.refl _)
      | (with_reducible exact LeO.none _)
      | (with_reducible refine LeO.ite ?_ ?_)
      | (with_reducible refine LeO.bind ?_ (fun _ => ?_))
      | exact ih0 _ _ _
      | exact ih1 _ _ _ _
      | exact LeO.none _
      | refine LeO.ite ?_ ?_
      | refine LeO.bind ?_ (fun _ => ?_)
theorem winnowref1_Extend.mono : ∀ a0 a1 k, LeO (winnowref1_Extend.f k a0 a1) (winnowref1_Extend.f (k + 1) a0 a1) := by
  intro a0 a1 k
  obtain ⟨ih0, ih1⟩ := winnowref1_Extend.mono_l k
  unfold winnowref1_Extend.f
  repeat' first
      | (with_reducible exact ih0 _ _ _)
      | (with_reducible exact ih1 _ _ _ _)
      | (with_reducible exact LeO.refl _)
      | (with_reducible exact LeO.none _)
      | (with_reducible refine LeO.ite ?_ ?_)
      | (with_reducible refine LeO.bind ?_ (fun _ => ?_))
      | exact ih0 _ _ _
      | exact ih1 _ _ _ _
      | exact LeO.none _
      | refine LeO.ite ?_ ?_
      | refine LeO.bind ?_ (fun _ => ?_)
set_option maxHeartbeats 8000000 in
set_option maxRecDepth 100000 in
theorem winnowref1_Extend.calls (k : Nat) (a0 : Int) (A1 : Option Addr) (c1 : Nat) (l1 : List Int) (r : Int) (w : World) (hr1 : Kd.C (Kd.int .u8) w A1 l1.length l1) (hc1 : l1.length ≤ c1) (h : winnowref1_Extend.f k a0 l1 = some r) :
    Calls Try.prog 35 #[.int .u32 a0, .slice A1 l1.length c1] w fun e w' => e = .returned (.int .u32 r) ∧ Drawn0 w w' := by
  have HR1 := Aside0.mk hr1
  have HC1 := Aside0.mk hc1
  clear hr1 hc1
  have H : (winnowref1_Extend.l0 k l1 (Go.bits .xor .u32 IntKind.u32.max a0) 0) = some r := h
  clear h
  have H' := Aside0.mk H
  clear H
  go_enter Try.func35, Try.ntmps35
  go_wp2
  go_loopg [5, 6] k (fun kq v5 v6 w' => ∃ (x5_1 : Int) (x6_1 : Int), v5 = .int .u32 x5_1 ∧ v6 = .int .i64 x6_1 ∧ Aside0 (winnowref1_Extend.l0 kq l1 x5_1 x6_1 = some r) ∧ Aside0 (kq ≤ k) ∧ Drawn0 w w')
  case atStart => exact ⟨(Go.bits .xor .u32 IntKind.u32.max a0), (0), (by first | rfl | (simp; done) | (simp [*]; done)), (by first | rfl | (simp; done) | (simp [*]; done)), H', ⟨Nat.le_refl _⟩, by repeat (first | exact Drawn0.refl _ | apply Drawn0.step)⟩
  case round =>
    clear H'
    try clear c1
    try clear p2
    obtain ⟨x5_1, x6_1, rfl, rfl, HA, HK1, ⟨m1, rfl⟩⟩ := hrel
    cases gk with
    | zero => exact absurd HA.out (by simp [winnowref1_Extend.l0])
    | succ k1 =>
      have H := HA.out
      clear HA
      simp only [winnowref1_Extend.l0] at H
      by_cases c3 : x6_1 < (l1.length : Int)
      · rw [if_pos c3] at H
        have c3b0 : decide (x6_1 < (l1.length : Int)) = true := decide_eq_true c3
        clear c3
        by_cases c4 : 0 ≤ x6_1
        · rw [if_pos c4] at H
          have c4b0 : decide (0 ≤ x6_1) = true := decide_eq_true c4
          clear c4
          have H' := Aside0.mk H
          clear H
          have p102 : 0 ≤ (x6_1 : Int) := of_decide_eq_true (by first | (with_reducible assumption) | assumption)
          have q102 : x6_1 < (l1.length : Int) := of_decide_eq_true (by first | (with_reducible assumption) | assumption)
          obtain ⟨ad102, e102, hx102_0⟩ := Kd.at_int HR1.out x6_1 p102 q102
          cases e102
          replace p102 := eq_true p102
          replace q102 := eq_true q102
          go_wp2
          go_loopg [5, 7] k1 (fun kq v5 v7 w' => ∃ (x5_2 : Int) (x7_2 : Int), v5 = .int .u32 x5_2 ∧ v7 = .int .i64 x7_2 ∧ Aside0 (winnowref1_Extend.l1 kq l1 x5_2 x6_1 x7_2 = some r) ∧ Aside0 (kq ≤ k1) ∧ Drawn0 w w')
          case atStart => exact ⟨(Go.bits .xor .u32 x5_1 ((rd l1 x6_1) % 4294967296)), (0), (by first | rfl | (simp; done) | (simp [*]; done)), (by first | rfl | (simp; done) | (simp [*]; done)), H', ⟨Nat.le_refl _⟩, by repeat (first | exact Drawn0.refl _ | apply Drawn0.step)⟩
          case round =>
            clear H'
            try clear c1
            try clear p1
            try clear q1
            try clear hx1
            try clear p2
            try clear c3
            try clear c3b0
            try clear c4
            try clear c4b0
            try clear hx102_0
            try clear p102
            try clear p2
            try clear q102
            obtain ⟨x5_2, x7_2, rfl, rfl, HA, HK2, ⟨m2, rfl⟩⟩ := hrel
            cases gk with
            | zero => exact absurd HA.out (by simp [winnowref1_Extend.l1])
            | succ k2 =>
              have H := HA.out
              clear HA
              simp only [winnowref1_Extend.l1] at H
              by_cases c5 : x7_2 < 8
              · rw [if_pos c5] at H
                have c5b0 : decide (x7_2 < 8) = true := decide_eq_true c5
                clear c5
                replace H := Option.bind_eq_some_iff.mp H
                obtain ⟨t103, A60, H⟩ := H
                replace H : (winnowref1_Extend.l1 k2 l1 t103 x6_1 (wrap64 (x7_2 + 1))) = some r := H
                have A6 := Aside0.mk A60
                clear A60
                have H' := Aside0.mk H
                clear H
                go_wp2_with (first | ((with_reducible refine gate_callee (f := 43) rfl ?_); refine goesL_ (some 28) rfl rfl Try.func43 (by kernel_rfl) rfl #[.int .u32 x5_2] rfl (by (try simp only [List.map_toArray, List.map_cons, List.map_nil]); first | done | rfl | (simp only [List.length_drop, List.length_take]; rfl)) ?_; (with_reducible refine (winnowref1_M.calls x5_2 t103 _ A6.out).mono ?_); rintro e w' ⟨rfl, ⟨nd, rfl⟩⟩; refine ⟨_, rfl, ?_⟩))
                go_roundg k2
                case measure => have := HK1.out; have := HK2.out; omega
                case rel => exact ⟨(t103), (wrap64 (x7_2 + 1)), (by first | rfl | (simp; done) | (simp [*]; done)), (by first | rfl | (simp; done) | (simp [*]; done)), H', ⟨by have := HK1.out; have := HK2.out; omega⟩, by repeat (first | exact Drawn0.refl _ | apply Drawn0.step)⟩
              · rw [if_neg c5] at H
                have c5b0 : decide (x7_2 < 8) = false := decide_eq_false c5
                clear c5
                have H' := Aside0.mk H
                clear H
                go_wp2
                go_roundg k2
                case measure => have := HK1.out; have := HK2.out; omega
                case rel => exact ⟨(x5_2), (wrap64 (x6_1 + 1)), (by first | rfl | (simp; done) | (simp [*]; done)), (by first | rfl | (simp; done) | (simp [*]; done)), H', ⟨by have := HK1.out; have := HK2.out; omega⟩, by repeat (first | exact Drawn0.refl _ | apply Drawn0.step)⟩
        · rw [if_neg c4] at H
          exact absurd H (by simp)
      · rw [if_neg c3] at H
        have c3b0 : decide (x6_1 < (l1.length : Int)) = false := decide_eq_false c3
        clear c3
        obtain rfl := Option.some.inj H
        go_wp2
        go_ret
        exact ⟨by first | rfl | (simp; done) | (simp [*]; done), by repeat (first | exact Drawn0.refl _ | apply Drawn0.step)⟩

end Go.Proofs.Ytbjlfenappnccaa.P

end
section
-- Written by a program of this session (wip/tools/hprint.py, over the kit's printer), not by hand. Lean checks it.
namespace Go.Proofs.Ytbjlfenappnccaa.P
open Go.RowKit Go.Proofs.YtbjlfenappnccaaW.PrintWords Go.Proofs.YtbjlfenappnccaaW.PrintLast Go.Proofs.YtbjlfenappnccaaW.PrintMore
attribute [local go_sem] max2_int min2_int max_two min_two max_three min_three max_four min_four
set_option linter.unusedVariables false
set_option linter.unusedSimpArgs false

/-! ### winnowref1_Sum: function 24 -/
def winnowref1_Sum.f (k : Nat) (l0 : List Int) : Option (Int) := (winnowref1_Extend.f k 0 l0).bind fun t104 => (some t104)
theorem winnowref1_Sum.mono : ∀ a0 k, LeO (winnowref1_Sum.f k a0) (winnowref1_Sum.f (k + 1) a0) := by
  intro a0 k
  unfold winnowref1_Sum.f
  repeat' first
      | (with_reducible exact winnowref1_Extend.mono _ _ _)
      | (with_reducible exact LeO.refl _)
      | (with_reducible exact LeO.none _)
      | (with_reducible refine LeO.ite ?_ ?_)
      | (with_reducible refine LeO.bind ?_ (fun _ => ?_))
      | exact winnowref1_Extend.mono _ _ _
      | exact LeO.none _
      | refine LeO.ite ?_ ?_
      | refine LeO.bind ?_ (fun _ => ?_)
set_option maxHeartbeats 8000000 in
set_option maxRecDepth 100000 in
theorem winnowref1_Sum.calls (k : Nat) (A0 : Option Addr) (c0 : Nat) (l0 : List Int) (r : Int) (w : World) (hr0 : Kd.C (Kd.int .u8) w A0 l0.length l0) (hc0 : l0.length ≤ c0) (h : winnowref1_Sum.f k l0 = some r) :
    Calls Try.prog 24 #[.slice A0 l0.length c0] w fun e w' => e = .returned (.int .u32 r) ∧ Drawn0 w w' := by
  have HR0 := Aside0.mk hr0
  have HC0 := Aside0.mk hc0
  clear hr0 hc0
  have H : ((winnowref1_Extend.f k 0 l0).bind fun t104 => (some t104)) = some r := h
  clear h
  replace H := Option.bind_eq_some_iff.mp H
  obtain ⟨t104, A20, H⟩ := H
  replace H : (some t104) = some r := H
  have A2 := Aside0.mk A20
  clear A20
  obtain rfl := Option.some.inj H
  go_enter Try.func24, Try.ntmps24
  go_wp2_with (first | ((with_reducible refine gate_callee (f := 35) rfl ?_); refine goesL_ (some 4) rfl rfl Try.func35 (by kernel_rfl) rfl #[.int .u32 0, .slice A0 l0.length c0] rfl (by (try simp only [List.map_toArray, List.map_cons, List.map_nil]); first | done | rfl | (simp only [List.length_drop, List.length_take]; rfl)) ?_; (with_reducible refine (winnowref1_Extend.calls k 0 _ _ l0 t104 _ ?side1 ?side2 A2.out).mono ?_); (case side1 => repeat (first | exact HR0.out | (with_reducible refine Kd.C_alloc ?_ _) | (with_reducible refine Kd.C_drewN ?_ _) | (with_reducible refine Kd.C_drew ?_))); (case side2 => exact HC0.out); rintro e w' ⟨rfl, ⟨nd, rfl⟩⟩; refine ⟨_, rfl, ?_⟩))
  go_ret
  exact ⟨by first | rfl | (simp; done) | (simp [*]; done), by repeat (first | exact Drawn0.refl _ | apply Drawn0.step)⟩

end Go.Proofs.Ytbjlfenappnccaa.P

end
section
/- The document's own sum of bytes is the same number as the program's. -/
namespace Go.Proofs.Ytbjlfenappnccaa.P
open Go.RowKit Go.Proofs.YtbjlfenappnccaaW.PrintWords Go.Proofs.YtbjlfenappnccaaW.PrintLast Go.Proofs.Ytbjlfenappnccaa.Hand
set_option linter.unusedVariables false

theorem M_eq (x : Nat) (hx : x < 2 ^ 32) : winnowref1_M.f (x : Int) = some ((Crc.step x : Nat) : Int) := by
  unfold winnowref1_M.f Crc.step
  rw [show Int.tmod (x : Int) 2 = ((x % 2 : Nat) : Int) from rfl]
  rcases Nat.mod_two_eq_zero_or_one x with h | h
  · rw [h, if_neg (by decide), if_neg (by decide)]; simp
  · rw [h, if_pos (by decide), if_pos (by decide)]
    have := b_xor (x / 2) Crc.poly (by omega) Crc.poly_lt
    rw [show ((x / 2 : Nat) : Int) = (x : Int) / 2 from by simp] at this
    rw [← this]
    rfl
theorem ref_inner (l : List Int) (i : Int) (d : Nat) : ∀ (k X j : Nat), X < 2 ^ 32 → j + d = 8 → winnowref1_Extend.l1 (k + d + 1) l (X : Int) i (j : Int) = winnowref1_Extend.l0 k l ((Crc.pw Crc.step d X : Nat) : Int) (wrap64 (i + 1)) := by
  induction d with
  | zero =>
    intro k X j hX hj
    obtain rfl : j = 8 := by omega
    rw [winnowref1_Extend.l1, if_neg (by decide)]
    rfl
  | succ d ih =>
    intro k X j hX hj
    have hw : wrap64 ((j : Int) + 1) = ((j + 1 : Nat) : Int) := by unfold wrap64; omega
    rw [winnowref1_Extend.l1, if_pos (by omega), M_eq X hX, Option.bind_some, hw, show k + (d + 1) = k + d + 1 from rfl, ih k (Crc.step X) (j + 1) (Crc.step_lt hX) (by omega), ← Crc.pw_succ']
theorem n32_mod (z : Int) : n32 (z % 4294967296) = n32 z := by unfold n32; omega
theorem ref_loop (s : Int) (l : List Int) (hl : l.length ≤ 9223372036854775806) (d : Nat) : ∀ (K i : Nat), i + d = l.length → 10 * d < K → winnowref1_Extend.l0 K l (reg s l i : Int) (i : Int) = some (extI s l) := by
  induction d with
  | zero =>
    intro K i hi hK
    obtain ⟨K, rfl⟩ : ∃ q, K = q + 1 := ⟨K - 1, by omega⟩
    obtain rfl : i = l.length := by omega
    rw [winnowref1_Extend.l0, if_neg (by omega), bits_xor_any, n32_nat _ (reg_lt _ _ _), show n32 IntKind.u32.max = Crc.mask from by decide, Nat.xor_comm]
    unfold extI Crc.ext reg
    rw [List.take_length]
  | succ d ih =>
    intro K i hi hK
    obtain ⟨K, rfl⟩ : ∃ q, K = (q + 8 + 1) + 1 := ⟨K - 10, by omega⟩
    have hw : wrap64 ((i : Int) + 1) = ((i + 1 : Nat) : Int) := by unfold wrap64; omega
    have hX := reg_lt s l i
    rw [winnowref1_Extend.l0, if_pos (by omega), if_pos (Int.natCast_nonneg i), bits_xor_any, n32_nat _ hX, n32_mod,
      show (0 : Int) = ((0 : Nat) : Int) from rfl, ref_inner l i 8 K _ 0 (Nat.xor_lt_two_pow hX (n32_lt _)) rfl, hw]
    have := reg_succ s l i (by omega)
    unfold Crc.byte at this
    rw [← this]
    exact ih K (i + 1) (by omega) (by omega)
theorem RefExtend_eq (s : Int) (l : List Int) (hl : l.length ≤ 9223372036854775806) (K : Nat) (hK : 10 * l.length < K) : winnowref1_Extend.f K s l = some (extI s l) := by
  unfold winnowref1_Extend.f
  have := ref_loop s l hl l.length K 0 (by omega) hK
  have h0 : Go.bits .xor .u32 IntKind.u32.max s = ((reg s l 0 : Nat) : Int) := by rw [bits_xor_any, show n32 IntKind.u32.max = Crc.mask from by decide, Nat.xor_comm]; rfl
  rw [h0]
  exact this
theorem RefSum_eq (l : List Int) (hl : l.length ≤ 9223372036854775806) (K : Nat) (hK : 10 * l.length < K) : winnowref1_Sum.f K l = some (extI 0 l) := by
  unfold winnowref1_Sum.f
  rw [RefExtend_eq 0 l hl K hK, Option.bind_some]
end Go.Proofs.Ytbjlfenappnccaa.P

end
section
/- Hash, the program's and the document's: the sum of the key's bytes, modulo the parts; contracts by hand. -/
namespace Go.Proofs.Ytbjlfenappnccaa.Hand
open Go.RowKit Go.Proofs.YtbjlfenappnccaaW.PrintWords Go.Proofs.YtbjlfenappnccaaW.PrintLast Go.Proofs.Ytbjlfenappnccaa.P
set_option linter.unusedVariables false
set_option linter.unusedSimpArgs false

/-- what a key's part is -/
def hashI (s : ByteArray) (n : Int) : Int := if 1 ≤ n ∧ n ≤ 65535 then extI 0 (bytesOf s) % n else 0
def parts_Hash.f (a0 : ByteArray) (a1 : Int) : Option Int := if a0.size ≤ 140737488351232 then some (hashI a0 a1) else none
def winnowref14_Hash.f (a0 : ByteArray) (a1 : Int) : Option Int := if a0.size ≤ 140737488351232 then some (hashI a0 a1) else none

theorem below_bytes (w : World) (e : TypeId) (s : ByteArray) : Below w.heap.size w (Lib.bytesWorld w e s) :=
  ⟨rfl, rfl, rfl, by rw [Lib.bytesWorld_size]; omega, fun i hi => Lib.bytesWorld_at_old w e s i hi⟩
theorem C_bytes (w : World) (s : ByteArray) (h : s.size ≤ 9223372036854775807) : Kd.C (Kd.int .u8) (Lib.bytesWorld w 5 s) (some ⟨w.heap.size, 0, none⟩) (bytesOf s).length (bytesOf s) := by
  refine ⟨rfl, by rw [bytesOf_length]; exact h, fun _ => ⟨_, rfl, fun j p hj => ⟨[.int .u8 p], rfl, rfl, fun i u hu => ?_⟩⟩⟩
  have hi : i = 0 := by
    rcases i with _ | i
    · rfl
    · simp at hu
  subst hi
  have hu' : Value.int .u8 p = u := by simpa using hu
  subst hu'
  have e : (⟨w.heap.size, 0, none⟩ : Addr).add (j * (Kd.int .u8).sz + 0) = ⟨w.heap.size, j, none⟩ := by
    show (⟨w.heap.size, 0, none⟩ : Addr).add (j * 1 + 0) = _
    rw [Nat.mul_one, Nat.add_zero]
    exact add_plain _ j
  have hj' : (s.data.toList.map fun b => (b.toNat : Int))[j]? = some p := hj
  rw [List.getElem?_map, Option.map_eq_some_iff] at hj'
  obtain ⟨b, hb, rfl⟩ := hj'
  have hl' : j < s.size := by
    have := (List.getElem?_eq_some_iff.1 hb).1
    rw [data_length] at this
    exact this
  rw [e, Lib.bytesWorld_cell w 5 s j hl', List.getD_eq_getElem?_getD, hb]
  rfl
/-- Sum of the bytes of a text that has just been converted. -/
theorem sum_conv (s : ByteArray) (hs : s.size ≤ 140737488351232) (w : World) : Calls Try.prog 23 #[.slice (some ⟨w.heap.size, 0, none⟩) s.size (grownCap w s.size 0 5)] (Lib.bytesWorld w 5 s) fun e w' => e = .returned (.int .u32 (extI 0 (bytesOf s))) ∧ Below (Lib.bytesWorld w 5 s).heap.size (Lib.bytesWorld w 5 s) w' := by
  have h := crc_Sum.calls (some ⟨w.heap.size, 0, none⟩) (grownCap w s.size 0 5) (bytesOf s) (extI 0 (bytesOf s)) (Lib.bytesWorld w 5 s) (C_bytes w s (by omega)) (by rw [bytesOf_length]; exact grownCap_ge _ _ _ _) rfl
  rw [bytesOf_length] at h
  exact h
theorem rsum_conv (s : ByteArray) (hs : s.size ≤ 140737488351232) (w : World) : Calls Try.prog 24 #[.slice (some ⟨w.heap.size, 0, none⟩) s.size (grownCap w s.size 0 5)] (Lib.bytesWorld w 5 s) fun e w' => e = .returned (.int .u32 (extI 0 (bytesOf s))) ∧ Drawn0 (Lib.bytesWorld w 5 s) w' := by
  have h := winnowref1_Sum.calls (10 * (bytesOf s).length + 1) (some ⟨w.heap.size, 0, none⟩) (grownCap w s.size 0 5) (bytesOf s) (extI 0 (bytesOf s)) (Lib.bytesWorld w 5 s) (C_bytes w s (by omega)) (by rw [bytesOf_length]; exact grownCap_ge _ _ _ _) (RefSum_eq _ (by rw [bytesOf_length]; omega) _ (by omega))
  rw [bytesOf_length] at h
  exact h
theorem ext_in (s : ByteArray) : 0 ≤ extI 0 (bytesOf s) ∧ extI 0 (bytesOf s) < 4294967296 := by
  have h : ∀ c ∈ (bytesOf s).map n32, c < 2 ^ 32 := fun c hc => by obtain ⟨z, _, rfl⟩ := List.mem_map.1 hc; exact n32_lt z
  have : Crc.ext (n32 0) ((bytesOf s).map n32) < 2 ^ 32 := Nat.xor_lt_two_pow (run_lt _ _ (Nat.xor_lt_two_pow (n32_lt 0) mask_lt) h) mask_lt
  unfold extI
  omega

set_option maxHeartbeats 1000000 in
theorem parts_Hash.calls (a0 : ByteArray) (a1 : Int) (r : Int) (w : World) (h : parts_Hash.f a0 a1 = some r) :
    Calls Try.prog 8 #[.string a0, .int .i64 a1] w fun e w' => e = .returned (.int .i64 r) ∧ Below w.heap.size w w' := by
  unfold parts_Hash.f at h
  by_cases hs : a0.size ≤ 140737488351232
  · rw [if_pos hs] at h
    obtain rfl := Option.some.inj h
    clear h
    have kc := fun (w : World) => Lib.run_convert_string_bytes (P := Try.prog) w 9 47 5 a0 Try.underlying9 Try.underlying47 Try.underlying5
    by_cases hn : 1 ≤ a1 ∧ a1 ≤ 65535
    · have hg : parts_good.f a1 = some true := by unfold parts_good.f; rw [if_pos hn.1, decide_eq_true hn.2]
      have hI : hashI a0 a1 = extI 0 (bytesOf a0) % a1 := by unfold hashI; rw [if_pos hn]
      have hx := ext_in a0
      obtain ⟨x, hX⟩ : ∃ x, x = extI 0 (bytesOf a0) := ⟨_, rfl⟩
      have hm0 : 0 ≤ x % a1 := Int.emod_nonneg _ (by omega)
      have hm1 : x % a1 < a1 := Int.emod_lt_of_pos _ (by omega)
      rw [← hX] at hx hI
      have hSum := sum_conv a0 hs
      rw [← hX] at hSum
      have HS := Aside0.mk hSum
      obtain ⟨hn1, hn2⟩ := hn
      obtain ⟨hx1, hx2⟩ := hx
      have HI := Aside0.mk hI
      clear hI hX hSum
      have hw1 : IntKind.u32.wrap a1 = a1 := by rw [IntKind.wrap_u32]; omega
      have hne : ¬ a1 = 0 := by omega
      go_enter Try.func8, Try.ntmps8
      go_wp2_with fail
      refine (parts_good.calls a1 true w hg).mono ?_
      rintro e w1 ⟨rfl, hD⟩
      go_wp2_with fail
      refine (HS.out w1).mono ?_
      rintro e w2 ⟨rfl, hB⟩
      have HB : Aside0 (Below w.heap.size w w2) := ⟨below_step (below_step hD.below (below_bytes w1 5 a0)) hB⟩
      clear hB hD
      go_wp2_with fail
      go_ret
      exact ⟨congrArg (fun z => Ending.returned (.int .i64 z)) HI.out.symm, HB.out⟩
    · have hg : parts_good.f a1 = some false := by
        unfold parts_good.f
        by_cases h1 : 1 ≤ a1
        · rw [if_pos h1, decide_eq_false (by omega)]
        · rw [if_neg h1]
      have hI : hashI a0 a1 = 0 := by unfold hashI; rw [if_neg hn]
      have HI := Aside0.mk hI
      clear hI hn
      go_enter Try.func8, Try.ntmps8
      go_wp2_with fail
      refine (parts_good.calls a1 false w hg).mono ?_
      rintro e w1 ⟨rfl, hD⟩
      go_wp2_with fail
      go_ret
      exact ⟨congrArg (fun z => Ending.returned (.int .i64 z)) HI.out.symm, hD.below⟩
  · rw [if_neg hs] at h; cases h

set_option maxHeartbeats 1000000 in
theorem winnowref14_Hash.calls (a0 : ByteArray) (a1 : Int) (r : Int) (w : World) (h : winnowref14_Hash.f a0 a1 = some r) :
    Calls Try.prog 9 #[.string a0, .int .i64 a1] w fun e w' => e = .returned (.int .i64 r) ∧ Below w.heap.size w w' := by
  unfold winnowref14_Hash.f at h
  by_cases hs : a0.size ≤ 140737488351232
  · rw [if_pos hs] at h
    obtain rfl := Option.some.inj h
    clear h
    have kc := fun (w : World) => Lib.run_convert_string_bytes (P := Try.prog) w 9 47 5 a0 Try.underlying9 Try.underlying47 Try.underlying5
    by_cases hn : 1 ≤ a1 ∧ a1 ≤ 65535
    · have hI : hashI a0 a1 = extI 0 (bytesOf a0) % a1 := by unfold hashI; rw [if_pos hn]
      have hx := ext_in a0
      obtain ⟨x, hX⟩ : ∃ x, x = extI 0 (bytesOf a0) := ⟨_, rfl⟩
      have hm0 : 0 ≤ x % a1 := Int.emod_nonneg _ (by omega)
      have hm1 : x % a1 < a1 := Int.emod_lt_of_pos _ (by omega)
      rw [← hX] at hx hI
      have hSum := rsum_conv a0 hs
      rw [← hX] at hSum
      have HS := Aside0.mk hSum
      obtain ⟨hn1, hn2⟩ := hn
      obtain ⟨hx1, hx2⟩ := hx
      have HI := Aside0.mk hI
      clear hI hX hSum
      have hw1 : IntKind.u32.wrap a1 = a1 := by rw [IntKind.wrap_u32]; omega
      have hne : ¬ a1 = 0 := by omega
      go_enter Try.func9, Try.ntmps9
      go_wp2_with fail
      refine (HS.out w).mono ?_
      rintro e w2 ⟨rfl, hB⟩
      have HB : Aside0 (Below w.heap.size w w2) := ⟨below_step (below_bytes w 5 a0) hB.below⟩
      clear hB
      go_wp2_with fail
      go_ret
      exact ⟨congrArg (fun z => Ending.returned (.int .i64 z)) HI.out.symm, HB.out⟩
    · have hI : hashI a0 a1 = 0 := by unfold hashI; rw [if_neg hn]
      have HI := Aside0.mk hI
      clear hI
      by_cases h1 : a1 < 1
      · clear hn
        go_enter Try.func9, Try.ntmps9
        go_wp2_with fail
        go_ret
        exact ⟨congrArg (fun z => Ending.returned (.int .i64 z)) HI.out.symm, Below.refl _ _⟩
      · have h2 : 65535 < a1 := by omega
        clear hn
        go_enter Try.func9, Try.ntmps9
        go_wp2_with fail
        go_ret
        exact ⟨congrArg (fun z => Ending.returned (.int .i64 z)) HI.out.symm, Below.refl _ _⟩
  · rw [if_neg hs] at h; cases h
end Go.Proofs.Ytbjlfenappnccaa.Hand

end
