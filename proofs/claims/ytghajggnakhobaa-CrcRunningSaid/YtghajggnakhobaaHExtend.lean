/- crc.Extend: what bytes make of a register, by the table of half bytes; contracts by hand. -/
import Derived.Test.YtghajggnakhobaaP0
import Derived.Test.YtghajggnakhobaaMath
import Derived.Laws.BitsAllLaws
import Derived.Outline
import Derived.Says
namespace Go.Proofs.Ytghajggnakhobaa.Hand
open Go.RowKit Go.Proofs.YtghajggnakhobaaW.PrintWords Go.Proofs.YtghajggnakhobaaW.PrintLast Go.Proofs.Ytghajggnakhobaa.P
set_option linter.unusedVariables false
set_option linter.unusedSimpArgs false

theorem b_and1 (x : Nat) (hx : x < 2 ^ 32) : Go.bits .and .u32 (x : Int) 1 = ((x % 2 : Nat) : Int) := by
  have := u32_and_nat x 1 (by omega) (by omega)
  rw [Nat.and_one_is_mod] at this
  exact this
theorem b_and15 (x : Nat) (hx : x < 2 ^ 32) : Go.bits .and .u32 (x : Int) 15 = ((x % 16 : Nat) : Int) := by
  have := u32_and_nat x 15 (by omega) (by omega)
  rw [show (15 : Nat) = 2 ^ 4 - 1 from rfl, Nat.and_two_pow_sub_one_eq_mod] at this
  exact this
theorem b_xor (x y : Nat) (hx : x < 2 ^ 32) (hy : y < 2 ^ 32) : Go.bits .xor .u32 (x : Int) (y : Int) = ((x ^^^ y : Nat) : Int) := u32_xor_nat x y (by omega) (by omega)

set_option maxHeartbeats 400000 in
theorem step_any (x : Nat) (hx : x < 2 ^ 32) (w : World) : Calls Try.prog 47 #[.int .u32 (x : Int)] w fun e w' => e = .returned (.int .u32 (Crc.step x : Nat)) ∧ w = w' := by
  have hx' : (x : Int) < 4294967296 := by omega
  have h1 := b_and1 x hx
  rcases Nat.mod_two_eq_zero_or_one x with h | h
  · have hb : (Go.bits .and .u32 (x : Int) 1 == 1) = false := by rw [h1, h]; rfl
    have hs : Crc.step x = x / 2 := by unfold Crc.step; rw [if_neg (by omega)]
    have HS := Aside0.mk hs
    clear h1 hs h hx
    go_enter Try.func47, Try.ntmps47
    go_wp2
    go_ret
    exact ⟨by rw [HS.out]; simp, rfl⟩
  · have hb : (Go.bits .and .u32 (x : Int) 1 == 1) = true := by rw [h1, h]; rfl
    have hs : Crc.step x = x / 2 ^^^ Crc.poly := by unfold Crc.step; rw [if_pos h]
    have hxor := b_xor (x / 2) Crc.poly (by omega) Crc.poly_lt
    have HS := Aside0.mk hs
    have HX := Aside0.mk hxor
    clear h1 hs h hx hxor
    go_enter Try.func47, Try.ntmps47
    go_wp2
    go_ret
    refine ⟨?_, rfl⟩
    rw [HS.out, ← HX.out]
    rfl

def tab (j : Nat) : Nat := Crc.pw Crc.step 4 j
theorem tab_lt (j : Nat) (h : j < 16) : tab j < 2 ^ 32 := Crc.pw_step_lt (by omega) 4
/-- the table, i of its places filled -/
def tcells (i : Nat) : Array Value := ((List.range 16).map fun j => Value.int .u32 (if j < i then (tab j : Nat) else 0 : Int)).toArray
theorem tcells_size (i : Nat) : (tcells i).size = 16 := by simp [tcells]
theorem tcells_get (i j : Nat) (h : j < 16) : (tcells i)[j]? = some (Value.int .u32 (if j < i then (tab j : Nat) else 0 : Int)) := by
  simp [tcells, h]
theorem tcells_set (i : Nat) (h : i < 16) : (tcells i).setIfInBounds i (Value.int .u32 (tab i : Nat)) = tcells (i + 1) := by
  apply Array.ext_getElem?
  intro j
  rw [Array.getElem?_setIfInBounds]
  by_cases hj : j < 16
  · rw [tcells_get _ _ hj, tcells_get _ _ hj]
    by_cases e : i = j
    · subst e; simp [tcells_size, h]
    · simp only [if_neg e]
      by_cases h2 : j < i
      · rw [if_pos h2, if_pos (by omega)]
      · rw [if_neg h2, if_neg (by omega)]
  · have : ∀ k, (tcells k)[j]? = none := fun k => by rw [Array.getElem?_eq_none]; rw [tcells_size]; omega
    rw [this, this]
    split
    · omega
    · rfl
theorem tcells_zero : tcells 0 = #[.int .u32 0, .int .u32 0, .int .u32 0, .int .u32 0, .int .u32 0, .int .u32 0, .int .u32 0, .int .u32 0, .int .u32 0, .int .u32 0, .int .u32 0, .int .u32 0, .int .u32 0, .int .u32 0, .int .u32 0, .int .u32 0] := by
  simp [tcells, List.range, List.range.loop]
def tagg : Value := .agg (tcells 16)

theorem tcells_one : (tcells 16).all (·.oneCell') = true := by
  simp [tcells, Value.oneCell']
theorem below_setRow {B : Nat} {w W : World} (h : Below B w W) {g : Nat} (hg : B ≤ g) (cs : Array Value) : Below B w (W.setRow g cs) :=
  ⟨h.os, h.tape, h.output, by rw [size_setRow]; exact h.size, fun i hi => (setRow_other W g i cs (by omega)).trans (h.block i hi)⟩
theorem info61 : (Try.prog.info? 61).map (·.size) = some (tcells 16).size := by rw [tcells_size]; kernel_rfl
set_option maxHeartbeats 1000000 in
theorem sums_any (w : World) : Calls Try.prog 44 #[] w fun e w' => e = .returned tagg ∧ Below w.heap.size w w' := by
  go_enter Try.func44, Try.ntmps44
  go_wp2_with fail
  rw [← tcells_zero]
  go_loopw [4] (fun v wr => ∃ i : Nat, i ≤ 16 ∧ v = .int .i64 i ∧ wr.heap[w.heap.size]? = some (.cells (tcells 0) 61 (0, 0)) ∧ wr.heap[w.heap.size + 1]? = some (.cells (tcells i) 61 (0, 0)) ∧ Aside0 (Below w.heap.size w wr)) (fun v _ => 16 - (intOf v).toNat)
  case atStart => exact ⟨0, by omega, rfl, heap_alloc2_old w _ _, heap_alloc2_new w _ _, ⟨((Below.refl _ _).alloc (Nat.le_refl _) _).alloc (by simp) _⟩⟩
  case round =>
    obtain ⟨i, hi, rfl, hb0, hb1, hB⟩ := hrel
    by_cases hlt : i < 16
    · have ht := tab_lt i hlt
      have hcell : wr.cell? ⟨w.heap.size + 1, i, none⟩ = some (.int .u32 0) := by
        rw [cell_of_row wr _ _ _ _ _ hb1, tcells_get _ _ hlt, if_neg (by omega)]
      have hfr := frozen_of_row wr (w.heap.size + 1) i _ _ hb1
      have hn1 := heap_setCell_same wr (w.heap.size + 1) i _ _ (.int .u32 (tab i : Nat)) hb1
      rw [tcells_set i hlt] at hn1
      have hn0 := (heap_setCell_other wr ⟨w.heap.size + 1, i, none⟩ w.heap.size (.int .u32 (tab i : Nat)) (by simp)).trans hb0
      have hBn : Aside0 (Below w.heap.size w (wr.setCell ⟨w.heap.size + 1, i, none⟩ (.int .u32 (tab i : Nat)))) := ⟨hB.out.setCell (by simp) _⟩
      have HN1 := Aside0.mk hn1
      have HN0 := Aside0.mk hn0
      have HT := Aside0.mk ht
      clear hn1 hn0 hb0 hb1 ht
      have hd16 : decide ((i : Int) < 16) = true := by simp; omega
      have hw32 : IntKind.u32.wrap (i : Int) = i := by rw [IntKind.wrap_u32]; omega
      go_wp2_with fail
      go_loop [3, 9] (fun x k => ∃ n : Nat, n ≤ 4 ∧ k = .int .i64 n ∧ x = .int .u32 (Crc.pw Crc.step n i : Nat)) (fun _ k => 4 - (intOf k).toNat)
      case atStart => exact ⟨0, by omega, rfl, rfl⟩
      case round =>
        obtain ⟨n, hn, rfl, rfl⟩ := hrel
        by_cases hl4 : n < 4
        · have hs := Crc.pw_step_lt (x := i) (by omega) n
          go_wp2_with (go_at_call 47; refine (step_any _ hs _).mono ?_; rintro e w' ⟨rfl, rfl⟩)
          go_round
          case rel => exact ⟨n + 1, by omega, by go_num, rfl⟩
          case measure => simp [intOf]; omega
        · obtain rfl : n = 4 := by omega
          go_wp2_with fail
          go_roundw
          case rel => exact ⟨i + 1, by omega, by go_num, HN0.out, HN1.out, hBn⟩
          case measure => simp [intOf]; omega
    · obtain rfl : i = 16 := by omega
      have hfin := setRow_heap wr w.heap.size _ (tcells 16) _ _ hb0
      have hsz : (tcells 0).size = (tcells 16).size := by rw [tcells_size, tcells_size]
      have hone : (tcells 16).all (·.oneCell') = true := tcells_one
      have hBf : Aside0 (Below w.heap.size w (wr.setRow w.heap.size (tcells 16))) := ⟨below_setRow hB.out (Nat.le_refl _) _⟩
      have HF := Aside0.mk hfin
      clear hfin
      go_wp2_with (first | (refine wpList_load_row rfl 61 _ rfl (w.heap.size + 1) rfl 61 _ _ _ hb1 Try.underlying61 rfl info61 ?_) | (refine wpList_store_row rfl 61 _ _ rfl w.heap.size (tcells 16) rfl rfl 61 _ hb0 info61 hsz hone ?_))
      refine bodyPost_ret (results_cell_row rfl _ _ w.heap.size 61 _ _ _ rfl HF.out Try.underlying61 rfl info61) rfl ⟨rfl, hBf.out⟩

/-- a number as a register has it -/
def n32 (z : Int) : Nat := (z % 4294967296).toNat
theorem n32_lt (z : Int) : n32 z < 2 ^ 32 := by unfold n32; omega
theorem n32_nat (n : Nat) (h : n < 2 ^ 32) : n32 (n : Int) = n := by unfold n32; omega
theorem wrap_u32_eq (z : Int) : IntKind.u32.wrap z = (n32 z : Int) := by rw [IntKind.wrap_u32]; unfold n32; omega
theorem bits_xor_any (a b : Int) : Go.bits .xor .u32 a b = ((n32 a ^^^ n32 b : Nat) : Int) := by
  have h : ∀ z : Int, (BitVec.ofInt 32 z).toNat = n32 z := fun z => by rw [BitVec.toNat_ofInt]; unfold n32; omega
  have hx : n32 a ^^^ n32 b < 2 ^ 32 := Nat.xor_lt_two_pow (n32_lt a) (n32_lt b)
  show IntKind.u32.wrap ((BitVec.ofInt 32 a ^^^ BitVec.ofInt 32 b).toNat : Int) = _
  rw [BitVec.toNat_xor, h, h, IntKind.wrap_u32]
  omega
theorem run_lt (x : Nat) (l : List Nat) (hx : x < 2 ^ 32) (hl : ∀ c ∈ l, c < 2 ^ 32) : Crc.run x l < 2 ^ 32 := by
  induction l generalizing x with
  | nil => rw [Crc.run_nil]; exact hx
  | cons c l ih =>
    rw [Crc.run_cons]
    exact ih _ (Crc.pw_step_lt (Nat.xor_lt_two_pow hx (hl c (by simp))) 8) (fun d hd => hl d (by simp [hd]))
/-- what crc.Extend answers -/
def extI (s : Int) (l : List Int) : Int := (Crc.ext (n32 s) (l.map n32) : Nat)
def crc_Extend.f (a0 : Int) (l1 : List Int) : Option Int := some (extI a0 l1)
/-- the register behind j bytes -/
def reg (s : Int) (l : List Int) (j : Nat) : Nat := Crc.run (n32 s ^^^ Crc.mask) ((l.take j).map n32)
theorem mask_lt : Crc.mask < 2 ^ 32 := by decide
theorem reg_lt (s : Int) (l : List Int) (j : Nat) : reg s l j < 2 ^ 32 :=
  run_lt _ _ (Nat.xor_lt_two_pow (n32_lt s) mask_lt) (fun c hc => by obtain ⟨z, _, rfl⟩ := List.mem_map.1 hc; exact n32_lt z)
theorem reg_succ (s : Int) (l : List Int) (j : Nat) (h : j < l.length) : reg s l (j + 1) = Crc.byte (reg s l j) (n32 (rd l j)) := by
  unfold reg
  have e : rd l (j : Int) = l[j] := by
    unfold rd
    rw [Int.toNat_natCast, List.getD_eq_getElem?_getD, List.getElem?_eq_getElem h]
    rfl
  rw [List.take_succ_eq_append_getElem h, List.map_append, Crc.run_append, e]
  rfl
theorem byte_tab (x c : Nat) (hx : x < 2 ^ 32) (hc : c < 2 ^ 32) : Crc.byte x c = (((x ^^^ c) / 16 ^^^ tab ((x ^^^ c) % 16)) / 16) ^^^ tab (((x ^^^ c) / 16 ^^^ tab ((x ^^^ c) % 16)) % 16) := Crc.byte_two _

set_option maxHeartbeats 1000000 in
theorem crc_Extend.calls (a0 : Int) (A1 : Option Addr) (c1 : Nat) (l1 : List Int) (r : Int) (w : World) (hr1 : Kd.C (Kd.int .u8) w A1 l1.length l1) (hc1 : l1.length ≤ c1) (h : crc_Extend.f a0 l1 = some r) :
    Calls Try.prog 17 #[.int .u32 a0, .slice A1 l1.length c1] w fun e w' => e = .returned (.int .u32 r) ∧ Below w.heap.size w w' := by
  obtain rfl := Option.some.inj h
  clear h
  have HR := Aside0.mk hr1
  have hlen : l1.length ≤ 9223372036854775807 := hr1.2.1
  clear hr1
  have hx0 : Go.bits .xor .u32 IntKind.u32.max a0 = ((reg a0 l1 0 : Nat) : Int) := by rw [bits_xor_any, show n32 IntKind.u32.max = Crc.mask from by decide, Nat.xor_comm]; rfl
  go_enter Try.func17, Try.ntmps17
  have hsz : (tcells 0).size = (tcells 16).size := by rw [tcells_size, tcells_size]
  rw [tcells_zero] at hsz
  have hone := tcells_one
  go_wp2_with (first | (go_at_call 44; refine (sums_any _).mono ?_; rintro e w1 ⟨rfl, hB1⟩) | (refine wpList_store_row rfl 61 _ _ rfl w1.heap.size (tcells 16) rfl rfl 61 _ (heap_alloc_new w1 _) info61 hsz hone ?_))
  have hb1 := setRow_heap _ w1.heap.size _ (tcells 16) _ _ (heap_alloc_new w1 (.cells (tcells 0) 61))
  have hBf : Below w.heap.size w ((w1.alloc (.cells (tcells 0) 61)).setRow w1.heap.size (tcells 16)) := below_setRow (hB1.alloc hB1.size _) hB1.size _
  rw [tcells_zero] at hb1 hBf
  generalize (w1.alloc _).setRow w1.heap.size (tcells 16) = W at hb1 hBf ⊢
  have HRW := Aside0.mk (Kd.C_below HR.out hBf)
  have HBF := Aside0.mk hBf
  clear hsz hone hB1 hBf HR
  go_loop [5, 14] (fun x i => ∃ j : Nat, j ≤ l1.length ∧ i = .int .i64 j ∧ x = .int .u32 (reg a0 l1 j : Nat)) (fun _ i => l1.length - (intOf i).toNat)
  case atStart => exact ⟨0, Nat.zero_le _, rfl, rfl⟩
  case round =>
    clear hx0
    obtain ⟨j, hj, rfl, rfl⟩ := hrel
    by_cases hlt : j < l1.length
    · have hd : decide ((j : Int) < (l1.length : Int)) = true := by simp; omega
      have hd' : decide (j < l1.length) = true := by simp; omega
      obtain ⟨ad, rfl, hcell⟩ := Kd.at_int HRW.out (j : Int) (by omega) (by omega)
      rw [Int.toNat_natCast] at hcell
      have hX := reg_lt a0 l1 j
      have hsucc := reg_succ a0 l1 j hlt
      obtain ⟨c, hc⟩ : ∃ c, c = rd l1 (j : Int) := ⟨_, rfl⟩
      rw [← hc] at hcell hsucc
      rw [byte_tab _ _ hX (n32_lt c)] at hsucc
      have hcw := wrap_u32_eq c
      have hC := n32_lt c
      have hY : reg a0 l1 j ^^^ n32 c < 2 ^ 32 := Nat.xor_lt_two_pow hX hC
      have e1 : Go.bits .xor .u32 (reg a0 l1 j : Nat) (n32 c : Nat) = ((reg a0 l1 j ^^^ n32 c : Nat) : Int) := b_xor _ _ hX hC
      obtain ⟨Y, hYe⟩ : ∃ Y, Y = reg a0 l1 j ^^^ n32 c := ⟨_, rfl⟩
      rw [← hYe] at hsucc hY e1
      have e2 := b_and15 Y hY
      have hty := tab_lt (Y % 16) (by omega)
      have cy : W.cell? ⟨w1.heap.size, Y % 16, none⟩ = some (.int .u32 (tab (Y % 16) : Nat)) := by
        rw [cell_of_row W _ _ _ _ _ hb1, tcells_get _ _ (by omega), if_pos (by omega)]
      have hZ : Y / 16 ^^^ tab (Y % 16) < 2 ^ 32 := Nat.xor_lt_two_pow (by omega) hty
      have e3 : Go.bits .xor .u32 ((Y : Int) / 16) (tab (Y % 16) : Nat) = ((Y / 16 ^^^ tab (Y % 16) : Nat) : Int) := b_xor (Y / 16) _ (by omega) hty
      obtain ⟨Z, hZe⟩ : ∃ Z, Z = Y / 16 ^^^ tab (Y % 16) := ⟨_, rfl⟩
      rw [← hZe] at hsucc hZ e3
      have e4 := b_and15 Z hZ
      have htz := tab_lt (Z % 16) (by omega)
      have cz : W.cell? ⟨w1.heap.size, Z % 16, none⟩ = some (.int .u32 (tab (Z % 16) : Nat)) := by
        rw [cell_of_row W _ _ _ _ _ hb1, tcells_get _ _ (by omega), if_pos (by omega)]
      have e5 : Go.bits .xor .u32 ((Z : Int) / 16) (tab (Z % 16) : Nat) = ((Z / 16 ^^^ tab (Z % 16) : Nat) : Int) := b_xor (Z / 16) _ (by omega) htz
      have hY0 : Y < 4294967296 := by omega
      have hZ0 : Z < 4294967296 := by omega
      have y16 : Y % 16 < 16 := by omega
      have z16 : Z % 16 < 16 := by omega
      have HS := Aside0.mk hsucc
      clear hsucc hX hC hY hZ hty htz hc hYe hZe hb1
      go_wp2_with fail
      go_round
      case rel => exact ⟨j + 1, by omega, by go_num, by rw [HS.out]⟩
      case measure => simp [intOf]; omega
    · obtain rfl : j = l1.length := by omega
      have hend : Go.bits .xor .u32 IntKind.u32.max (reg a0 l1 l1.length : Nat) = extI a0 l1 := by
        rw [bits_xor_any, n32_nat _ (reg_lt _ _ _), show n32 IntKind.u32.max = Crc.mask from by decide, Nat.xor_comm]
        unfold extI Crc.ext reg
        rw [List.take_length]
      go_wp2_with fail
      go_ret
      exact ⟨rfl, HBF.out⟩
end Go.Proofs.Ytghajggnakhobaa.Hand
