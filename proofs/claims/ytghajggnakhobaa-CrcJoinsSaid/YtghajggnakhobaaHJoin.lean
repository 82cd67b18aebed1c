/- winnowref1.Join: a linear map, told by what becomes of each bit, squared again and again; contracts by hand. -/
import Derived.Test.YtghajggnakhobaaHExtend
import Derived.Deep.RegionHeld3
import Derived.Deep.MidRow
namespace Go.Proofs.Ytghajggnakhobaa.Hand
open Go.RowKit Go.Proofs.YtghajggnakhobaaW.PrintWords Go.Proofs.YtghajggnakhobaaW.PrintLast Go.Proofs.Ytghajggnakhobaa.P
set_option linter.unusedVariables false
set_option linter.unusedSimpArgs false

/-- a map's cells, i of its places filled -/
def pcells (f : Nat → Nat) (i : Nat) : Array Value := ((List.range 32).map fun j => Value.int .u32 (if j < i then (f j : Nat) else 0 : Int)).toArray
theorem pcells_size (f : Nat → Nat) (i : Nat) : (pcells f i).size = 32 := by simp [pcells]
theorem pcells_get (f : Nat → Nat) (i j : Nat) (h : j < 32) : (pcells f i)[j]? = some (Value.int .u32 (if j < i then (f j : Nat) else 0 : Int)) := by
  simp [pcells, h]
theorem pcells_set (f : Nat → Nat) (i : Nat) (h : i < 32) : (pcells f i).setIfInBounds i (Value.int .u32 (f i : Nat)) = pcells f (i + 1) := by
  apply Array.ext_getElem?
  intro j
  rw [Array.getElem?_setIfInBounds]
  by_cases hj : j < 32
  · rw [pcells_get _ _ _ hj, pcells_get _ _ _ hj]
    by_cases e : i = j
    · subst e; simp [pcells_size, h]
    · simp only [if_neg e]
      by_cases h2 : j < i
      · rw [if_pos h2, if_pos (by omega)]
      · rw [if_neg h2, if_neg (by omega)]
  · have : ∀ k, (pcells f k)[j]? = none := fun k => by rw [Array.getElem?_eq_none]; rw [pcells_size]; omega
    rw [this, this]
    split
    · omega
    · rfl
theorem pcells_one (f : Nat → Nat) : (pcells f 32).all (·.oneCell') = true := by
  simp [pcells, Value.oneCell']
theorem infoM (f : Nat → Nat) : (Try.prog.info? 57).map (·.size) = some (pcells f 32).size := by rw [pcells_size]; kernel_rfl
/-- what j steps make of each bit -/
def mp (j : Nat) (i : Nat) : Nat := Crc.pw Crc.step j (2 ^ i)

theorem mod_next (x n : Nat) (h1 : x / 2 ^ n % 2 = 1) : x % 2 ^ (n + 1) = x % 2 ^ n ^^^ 2 ^ n := by
  rw [Nat.mod_pow_succ, h1, Nat.mul_one]
  have hlt : x % 2 ^ n < 2 ^ n := Nat.mod_lt _ (Nat.two_pow_pos n)
  have e := Nat.two_pow_add_eq_or_of_lt hlt 1
  rw [Nat.mul_one] at e
  rw [Nat.add_comm, e, Nat.xor_comm]
  apply Nat.eq_of_testBit_eq
  intro i
  rw [Nat.testBit_or, Nat.testBit_xor, Nat.testBit_two_pow]
  by_cases e : n = i
  · subst e
    have : (x % 2 ^ n).testBit n = false := Nat.testBit_lt_two_pow hlt
    simp [this]
  · simp [e]
theorem mod_next0 (x n : Nat) (h0 : x / 2 ^ n % 2 = 0) : x % 2 ^ (n + 1) = x % 2 ^ n := by
  rw [Nat.mod_pow_succ, h0, Nat.mul_zero, Nat.add_zero]
theorem pw_next (j x n : Nat) (h1 : x / 2 ^ n % 2 = 1) : Crc.pw Crc.step j (x % 2 ^ (n + 1)) = Crc.pw Crc.step j (x % 2 ^ n) ^^^ mp j n := by
  rw [mod_next x n h1, Crc.step_lin.pw j]
  rfl
theorem mp_lt (j i : Nat) (h : i < 32) : mp j i < 2 ^ 32 := Crc.pw_step_lt (Nat.pow_lt_pow_right (by decide) h) j
theorem mod_lt32 (x n : Nat) (hx : x < 2 ^ 32) : x % 2 ^ n < 2 ^ 32 := Nat.lt_of_le_of_lt (Nat.mod_le _ _) hx

set_option maxHeartbeats 1000000 in
theorem of_any (j x : Nat) (hx : x < 2 ^ 32) (w : World) : Calls Try.prog 43 #[.agg (pcells (mp j) 32), .int .u32 (x : Int)] w fun e w' => e = .returned (.int .u32 (Crc.pw Crc.step j x : Nat)) ∧ Below w.heap.size w w' := by
  go_enter Try.func43, Try.ntmps43
  go_wp2_with fail
  have hb := heap_alloc_new w (.cells (pcells (mp j) 32) 57)
  have hB : Aside0 (Below w.heap.size w (w.alloc (.cells (pcells (mp j) 32) 57))) := ⟨(Below.refl _ _).alloc (Nat.le_refl _) _⟩
  generalize w.alloc (.cells (pcells (mp j) 32) 57) = W at hb hB ⊢
  have HBC := Aside0.mk hb
  clear hb
  have HX := Aside0.mk hx
  clear hx
  go_loop [5, 6] (fun y i => ∃ n : Nat, n ≤ 32 ∧ i = .int .i64 n ∧ y = .int .u32 (Crc.pw Crc.step j (x % 2 ^ n) : Nat)) (fun _ i => 32 - (intOf i).toNat)
  case atStart => exact ⟨0, Nat.zero_le _, rfl, by rw [Nat.pow_zero, Nat.mod_one, (Crc.step_lin.pw j).zero]; rfl⟩
  case round =>
    obtain ⟨n, hn, rfl, rfl⟩ := hrel
    by_cases hlt : n < 32
    · have hd32 : decide ((n : Int) < 32) = true := by simp; omega
      have hcast : (x : Int) / 2 ^ n = ((x / 2 ^ n : Nat) : Int) := by simp
      rcases Nat.mod_two_eq_zero_or_one (x / 2 ^ n) with h | h
      · have hc : (((x : Int) / 2 ^ n).tmod 2 == 1) = false := by
          rw [hcast, Int.tmod_eq_emod_of_nonneg (Int.natCast_nonneg _)]
          simp only [beq_eq_false_iff_ne, ne_eq]
          generalize x / 2 ^ n = q at h
          omega
        have hm := Aside0.mk (mod_next0 x n h)
        clear h hcast
        go_wp2_with fail
        go_round
        case rel => exact ⟨n + 1, by omega, by go_num, by rw [hm.out]⟩
        case measure => simp [intOf]; omega
      · have hc : (((x : Int) / 2 ^ n).tmod 2 == 1) = true := by
          rw [hcast, Int.tmod_eq_emod_of_nonneg (Int.natCast_nonneg _)]
          simp only [beq_iff_eq]
          generalize x / 2 ^ n = q at h
          omega
        have hm := Aside0.mk (pw_next j x n h)
        have hcell : W.cell? ⟨w.heap.size, n, none⟩ = some (.int .u32 (mp j n : Nat)) := by
          rw [cell_of_row W _ _ _ _ _ HBC.out, pcells_get _ _ _ hlt, if_pos hlt]
        have hx2 := b_xor (Crc.pw Crc.step j (x % 2 ^ n)) (mp j n) (Crc.pw_step_lt (mod_lt32 x n HX.out) j) (mp_lt j n hlt)
        clear h hcast
        go_wp2_with fail
        go_round
        case rel => exact ⟨n + 1, by omega, by go_num, by rw [hm.out]⟩
        case measure => simp [intOf]; omega
    · obtain rfl : n = 32 := by omega
      have he : x % 2 ^ 32 = x := Nat.mod_eq_of_lt HX.out
      go_wp2_with fail
      go_ret
      exact ⟨rfl, hB.out⟩

theorem pcells_zero (f : Nat → Nat) : pcells f 0 = #[.int .u32 0, .int .u32 0, .int .u32 0, .int .u32 0, .int .u32 0, .int .u32 0, .int .u32 0, .int .u32 0, .int .u32 0, .int .u32 0, .int .u32 0, .int .u32 0, .int .u32 0, .int .u32 0, .int .u32 0, .int .u32 0, .int .u32 0, .int .u32 0, .int .u32 0, .int .u32 0, .int .u32 0, .int .u32 0, .int .u32 0, .int .u32 0, .int .u32 0, .int .u32 0, .int .u32 0, .int .u32 0, .int .u32 0, .int .u32 0, .int .u32 0, .int .u32 0] := by
  simp [pcells, List.range, List.range.loop]
/-- where twice stands, i places of its answer filled -/
def TwRows (j i : Nat) (w w' : World) : Prop :=
  w'.heap[w.heap.size]? = some (.cells (pcells (mp j) 32) 57 (0, 0)) ∧ w'.heap[w.heap.size + 1]? = some (.cells (pcells (mp (j + j)) 0) 57 (0, 0)) ∧
  w'.heap[w.heap.size + 1 + 1]? = some (.cells (pcells (mp (j + j)) i) 57 (0, 0)) ∧ Below w.heap.size w w'
theorem TwRows.step {j i : Nat} {w w1 w2 : World} (h : TwRows j i w w1) (hb : Below w1.heap.size w1 w2) : TwRows j i w w2 := by
  obtain ⟨h0, h1, h2, hB⟩ := h
  have lt : ∀ {k : Nat} {o : Obj}, w1.heap[k]? = some o → k < w1.heap.size := fun h => (Array.getElem?_eq_some_iff.1 h).1
  exact ⟨(hb.block _ (lt h0)).trans h0, (hb.block _ (lt h1)).trans h1, (hb.block _ (lt h2)).trans h2, below_step hB hb⟩
@[simp] theorem TwRows_drew {j i : Nat} {w w1 : World} : TwRows j i w w1.drew ↔ TwRows j i w w1 := by
  exact ⟨fun ⟨h0, h1, h2, hB⟩ => ⟨h0, h1, h2, ⟨hB.os, hB.tape, hB.output, hB.size, hB.block⟩⟩, fun h => h.step (below_drew1 (Below.refl _ _))⟩
theorem TwRows.S {j i : Nat} {w w1 : World} (h : TwRows j i w w1) (hi : i < 32) :
    TwRows j i w w1 ∧ w1.rangeAt w.heap.size 0 (pcells (mp j) 32).toList ∧ w1.cell? ⟨w.heap.size, i, none⟩ = some (.int .u32 (mp j i : Nat)) ∧
    w1.cell? ⟨w.heap.size + 1 + 1, i, none⟩ = some (.int .u32 0) ∧ w1.frozen? ⟨w.heap.size + 1 + 1, i, none⟩ = false := by
  refine ⟨h, ?_, ?_, ?_, frozen_of_row _ _ _ _ _ h.2.2.1⟩
  · have := World.rangeAt_of_block h.1 0 32
    rw [show (pcells (mp j) 32).extract 0 (0 + 32) = pcells (mp j) 32 from Array.extract_eq_self_of_le (by rw [pcells_size]; omega)] at this
    exact this
  · rw [cell_of_row _ _ _ _ _ _ h.1, pcells_get _ _ _ hi, if_pos hi]
  · rw [cell_of_row _ _ _ _ _ _ h.2.2.1, pcells_get _ _ _ hi, if_neg (Nat.lt_irrefl i)]
theorem TwRows.put {j i : Nat} {w w1 : World} (h : TwRows j i w w1) (hi : i < 32) : TwRows j (i + 1) w (w1.setCell ⟨w.heap.size + 1 + 1, i, none⟩ (.int .u32 (mp (j + j) i : Nat))) := by
  obtain ⟨h0, h1, h2, hB⟩ := h
  have hn := heap_setCell_same w1 (w.heap.size + 1 + 1) i _ _ (.int .u32 (mp (j + j) i : Nat)) h2
  rw [pcells_set _ i hi] at hn
  exact ⟨(heap_setCell_other w1 _ w.heap.size _ (by simp; omega)).trans h0, (heap_setCell_other w1 _ (w.heap.size + 1) _ (by simp)).trans h1, hn, hB.setCell (by simp; omega) _⟩
theorem mp_mp (j i : Nat) : Crc.pw Crc.step j (mp j i) = mp (j + j) i := by unfold mp; rw [Crc.pw_add]
def TwS (j i : Nat) (w w1 : World) : Prop := (TwRows j i w w1 ∨ TwRows j (i + 1) w w1)
@[simp] theorem TwS_drew {j i : Nat} {w w1 : World} : TwS j i w w1.drew ↔ TwS j i w w1 := by simp [TwS]
theorem TwS.S {j i : Nat} {w w1 : World} (h : TwS j i w w1) (hi : i < 32) :
    TwS j i w w1 ∧ w1.rangeAt w.heap.size 0 (pcells (mp j) 32).toList ∧ w1.cell? ⟨w.heap.size, i, none⟩ = some (.int .u32 (mp j i : Nat)) := by
  have h0 : w1.heap[w.heap.size]? = some (.cells (pcells (mp j) 32) 57 (0, 0)) := h.elim (fun h => h.1) (fun h => h.1)
  refine ⟨h, ?_, ?_⟩
  · have := World.rangeAt_of_block h0 0 32
    rw [show (pcells (mp j) 32).extract 0 (0 + 32) = pcells (mp j) 32 from Array.extract_eq_self_of_le (by rw [pcells_size]; omega)] at this
    exact this
  · rw [cell_of_row _ _ _ _ _ _ h0, pcells_get _ _ _ hi, if_pos hi]
theorem TwRows.put' {j i : Nat} {w w1 : World} (h : TwRows j i w w1) (hi : i < 32) : TwRows j (i + 1) w (w1.setCell ⟨w.heap.size + 1 + 1, i, none⟩ (.int .u32 (Crc.pw Crc.step j (mp j i) : Nat))) := by
  rw [mp_mp]
  exact h.put hi

set_option maxHeartbeats 1000000 in
theorem twice_any (j : Nat) (w : World) : Calls Try.prog 42 #[.agg (pcells (mp j) 32)] w fun e w' => e = .returned (.agg (pcells (mp (j + j)) 32)) ∧ Below w.heap.size w w' := by
  go_enter Try.func42, Try.ntmps42
  go_wp2_with fail
  rw [← pcells_zero (mp (j + j))]
  go_loopw [4] (fun v wr => ∃ i : Nat, i ≤ 32 ∧ v = .int .i64 i ∧ Aside0 (TwRows j i w wr)) (fun v _ => 32 - (intOf v).toNat)
  case atStart =>
    refine ⟨0, by omega, rfl, ⟨?_, ?_, ?_, ?_⟩⟩
    · exact (Below.heap_alloc _ _ _ (by simp; omega)).trans (heap_alloc2_old w _ _)
    · exact (Below.heap_alloc _ _ _ (by simp)).trans (heap_alloc2_new w _ _)
    · have h := heap_alloc_new ((w.alloc (.cells (pcells (mp j) 32) 57)).alloc (.cells (pcells (mp (j + j)) 0) 57)) (.cells (pcells (mp (j + j)) 0) 57)
      have hs : ((w.alloc (.cells (pcells (mp j) 32) 57)).alloc (.cells (pcells (mp (j + j)) 0) 57)).heap.size = w.heap.size + 1 + 1 := by simp
      rw [hs] at h
      exact h
    · exact (((Below.refl _ _).alloc (Nat.le_refl _) _).alloc (by simp) _).alloc (by simp; omega) _
  case round =>
    obtain ⟨i, hi, rfl, hT⟩ := hrel
    by_cases hlt : i < 32
    · have hd32 : decide ((i : Int) < 32) = true := by simp; omega
      have h0 : (0 : Int) ≤ (i : Int) := Int.natCast_nonneg _
      have h32 : (i : Int) < 32 := by omega
      have hu := Try.underlying57
      have hin : (Try.prog.info? 57).map (·.size) = some (pcells (mp j) 32).toList.length := by rw [Array.length_toList]; exact infoM _
      have hlen : (pcells (mp j) 32).toList.length = 32 := by rw [Array.length_toList, pcells_size]
      have hone : ∀ v ∈ (pcells (mp j) 32).toList, v.oneCell' = true := by intro v hv; have := Array.all_eq_true_iff_forall_mem.1 (pcells_one (mp j)); exact this v (by simpa using hv)
      have hT1 := hT.out
      obtain ⟨hS1, hT2, hT3⟩ := TwS.S (.inl hT1) hlt
      have hmp := Aside0.mk (mp_lt j i hlt)
      go_wp2_with fail
      go_region_held3 (fun w' => TwS j i w w' ∧ w'.rangeAt w.heap.size 0 (pcells (mp j) 32).toList ∧ w'.cell? ⟨w.heap.size, i, none⟩ = some (.int .u32 (mp j i : Nat)))
        (first | (exact TwS.S (Or.inl hT6) hlt) | (exact TwS.S (Or.inr (TwRows.put' hT6 hlt)) hlt) | go_keep)
        ((go_at_call 43; refine (of_any j (mp j i) hmp.out _).mono ?_; rintro e w2 ⟨rfl, hB2⟩; have hT6 := TwRows.step (TwRows_drew.2 hT1) hB2; obtain ⟨_, _, _, hT4, hT5⟩ := hT6.S hlt))
      go_wp2_with fail
      go_roundw
      case rel => exact ⟨i + 1, by omega, by go_num, ⟨hT6.put' hlt⟩⟩
      case measure => simp [intOf]; omega
    · obtain rfl : i = 32 := by omega
      obtain ⟨hb0, hb1, hb2, hB⟩ := hT.out
      have hfin := setRow_heap wr (w.heap.size + 1) _ (pcells (mp (j + j)) 32) _ _ hb1
      have hsz : (pcells (mp (j + j)) 0).size = (pcells (mp (j + j)) 32).size := by rw [pcells_size, pcells_size]
      have hone := pcells_one (mp (j + j))
      have hin := infoM (mp (j + j))
      have hBf : Aside0 (Below w.heap.size w (wr.setRow (w.heap.size + 1) (pcells (mp (j + j)) 32))) := ⟨below_setRow hB (by omega) _⟩
      have HF := Aside0.mk hfin
      clear hfin hB
      go_wp2_with (first | (refine wpList_load_row rfl 57 _ rfl (w.heap.size + 1 + 1) rfl 57 _ _ _ hb2 Try.underlying57 rfl hin ?_) | (refine wpList_store_row rfl 57 _ _ rfl (w.heap.size + 1) (pcells (mp (j + j)) 32) rfl rfl 57 _ hb1 hin hsz hone ?_))
      refine bodyPost_ret (results_cell_row rfl _ _ (w.heap.size + 1) 57 _ _ _ rfl HF.out Try.underlying57 rfl hin) rfl ⟨rfl, hBf.out⟩

theorem M_any (x : Nat) (hx : x < 2 ^ 32) (w : World) : Calls Try.prog 41 #[.int .u32 (x : Int)] w fun e w' => e = .returned (.int .u32 (Crc.step x : Nat)) ∧ Below w.heap.size w w' := by
  have hx' : (x : Int) < 4294967296 := by omega
  rcases Nat.mod_two_eq_zero_or_one x with h | h
  · have hb : ((x : Int) % 2 == 1) = false := by simp only [beq_eq_false_iff_ne, ne_eq]; omega
    have hs : Crc.step x = x / 2 := by unfold Crc.step; rw [if_neg (by omega)]
    have HS := Aside0.mk hs
    clear hs h hx
    go_enter Try.func41, Try.ntmps41
    go_wp2_with fail
    go_ret
    exact ⟨by rw [HS.out]; simp, Below.refl _ _⟩
  · have hb : ((x : Int) % 2 == 1) = true := by simp only [beq_iff_eq]; omega
    have hs : Crc.step x = x / 2 ^^^ Crc.poly := by unfold Crc.step; rw [if_pos h]
    have HX := Aside0.mk (b_xor (x / 2) Crc.poly (by omega) Crc.poly_lt)
    have HS := Aside0.mk hs
    clear hs h hx
    go_enter Try.func41, Try.ntmps41
    go_wp2_with fail
    go_ret
    refine ⟨?_, Below.refl _ _⟩
    rw [HS.out, ← HX.out]
    rfl
/-- where Join stands: i places of the map of s steps filled -/
def JRows (s i : Nat) (w w' : World) : Prop := w'.heap[w.heap.size]? = some (.cells (pcells (mp s) i) 57 (0, 0)) ∧ Below w.heap.size w w'
theorem JRows.step {j i : Nat} {w w1 w2 : World} (h : JRows j i w w1) (hb : Below w1.heap.size w1 w2) : JRows j i w w2 := by
  obtain ⟨h0, hB⟩ := h
  exact ⟨(hb.block _ (Array.getElem?_eq_some_iff.1 h0).1).trans h0, below_step hB hb⟩
theorem JRows.put {j i : Nat} {w w1 : World} (h : JRows j i w w1) (hi : i < 32) : JRows j (i + 1) w (w1.setCell ⟨w.heap.size, i, none⟩ (.int .u32 (mp j i : Nat))) := by
  obtain ⟨h0, hB⟩ := h
  have hn := heap_setCell_same w1 w.heap.size i _ _ (.int .u32 (mp j i : Nat)) h0
  rw [pcells_set _ i hi] at hn
  exact ⟨hn, hB.setCell (Nat.le_refl _) _⟩
theorem JRows.all {j s : Nat} {w w1 : World} (h : JRows j 32 w w1) : JRows s 32 w (w1.setRow w.heap.size (pcells (mp s) 32)) :=
  ⟨setRow_heap w1 w.heap.size _ (pcells (mp s) 32) _ _ h.1, below_setRow h.2 (Nat.le_refl _) _⟩
set_option maxHeartbeats 2000000 in
theorem Join_any (a b : Nat) (n : Int) (ha : a < 2 ^ 32) (hb : b < 2 ^ 32) (hn : n ≤ 9223372036854775807) (w : World) :
    Calls Try.prog 14 #[.int .u32 (a : Int), .int .u32 (b : Int), .int .i64 n] w fun e w' => e = .returned (.int .u32 (Crc.pw Crc.step (8 * n.toNat) a ^^^ b : Nat)) ∧ Below w.heap.size w w' := by
  have HA := Aside0.mk ha
  have HBB := Aside0.mk hb
  clear ha hb
  go_enter Try.func14, Try.ntmps14
  go_wp2_with fail
  rw [← pcells_zero (mp 1)]
  go_loopw [8] (fun v wr => ∃ i : Nat, i ≤ 32 ∧ v = .int .i64 i ∧ Aside0 (JRows 1 i w wr)) (fun v _ => 32 - (intOf v).toNat)
  case atStart => exact ⟨0, by omega, rfl, ⟨heap_alloc_new w _, (Below.refl _ _).alloc (Nat.le_refl _) _⟩⟩
  case round =>
    obtain ⟨i, hi, rfl, hT⟩ := hrel
    by_cases hlt : i < 32
    · have hd32 : decide ((i : Int) < 32) = true := by simp; omega
      have hp : 2 ^ i < 2 ^ 32 := Nat.pow_lt_pow_right (by decide) hlt
      have HP := Aside0.mk hp
      clear hp
      have hsh : (2 : Int) ^ i % 4294967296 = ((2 ^ i : Nat) : Int) := by
        have h1 := HP.out
        have h2 : ((2 ^ i : Nat) : Int) = (2 : Int) ^ i := by simp
        rw [← h2]
        generalize 2 ^ i = z at h1
        omega
      have HSH := Aside0.mk hsh
      clear hsh
      go_wp2_with fail
      rw [HSH.out]
      refine (M_any (2 ^ i) HP.out _).mono ?_
      rintro e w2 ⟨rfl, hB2⟩
      have hT2 := hT.out.step hB2
      have hcell : w2.cell? ⟨w.heap.size, i, none⟩ = some (.int .u32 0) := by
        rw [cell_of_row _ _ _ _ _ _ hT2.1, pcells_get _ _ _ hlt, if_neg (Nat.lt_irrefl i)]
      have hfr := frozen_of_row _ _ i _ _ hT2.1
      have HT2 := Aside0.mk (hT2.put hlt)
      clear hT2 hB2 hT
      go_wp2_with fail
      go_roundw
      case rel => exact ⟨i + 1, by omega, by go_num, ⟨HT2.out⟩⟩
      case measure => simp [intOf]; omega
    · obtain rfl : i = 32 := by omega
      have hin1 := infoM (mp 1)
      have hin8 := infoM (mp 8)
      have hone := pcells_one (mp 8)
      have hsz : (pcells (mp 1) 32).size = (pcells (mp 8) 32).size := by rw [pcells_size, pcells_size]
      have hb0 := hT.out.1
      go_wp2_with (refine wpList_load_row rfl 57 _ rfl w.heap.size rfl 57 _ _ _ hb0 Try.underlying57 rfl hin1 ?_)
      refine (twice_any 1 _).mono ?_
      rintro e w2 ⟨rfl, hB2⟩
      go_wp2_with fail
      refine (twice_any (1 + 1) _).mono ?_
      rintro e w3 ⟨rfl, hB3⟩
      go_wp2_with fail
      refine (twice_any (1 + 1 + (1 + 1)) _).mono ?_
      rintro e w4 ⟨rfl, hB4⟩
      have hT4 := ((hT.out.step hB2).step hB3).step hB4
      have HT4 := Aside0.mk (hT4.all (s := 8))
      have hb4 := hT4.1
      clear hT4 hB2 hB3 hB4 hb0 hT
      go_wp2_with (refine wpList_store_row rfl 57 _ _ rfl w.heap.size (pcells (mp 8) 32) rfl rfl 57 _ hb4 hin8 hsz hone ?_)
      clear hsz hone hb4
      generalize w4.setRow w.heap.size (pcells (mp 8) 32) = W at HT4 ⊢
      go_loopw [0, 9] (fun av kv wr => ∃ i : Nat, ∃ q : Int, kv = .int .i64 q ∧ q ≤ 9223372036854775807 ∧ Aside0 (q.toNat = n.toNat / 2 ^ i) ∧ av = .int .u32 (Crc.pw Crc.step (8 * (n.toNat % 2 ^ i)) a : Nat) ∧ Aside0 (JRows (8 * 2 ^ i) 32 w wr)) (fun _ kv _ => (intOf kv).toNat)
      case atStart => exact ⟨0, n, rfl, hn, ⟨by simp⟩, by simp [Nat.mod_one, Crc.pw], HT4⟩
      case round =>
        clear HT4 hin1 hin8
        obtain ⟨i, q, rfl, hq, hqn, rfl, hT⟩ := hrel
        by_cases hpos : 0 < q
        · obtain ⟨p, rfl⟩ : ∃ p : Nat, q = p := ⟨q.toNat, by omega⟩
          have hqn1 := hqn.out
          rw [Int.toNat_natCast] at hqn1
          have hd : decide ((p : Int) > 0) = true := decide_eq_true hpos
          have hdn : decide (0 < p) = true := decide_eq_true (by omega)
          have hin := infoM (mp (8 * 2 ^ i))
          have hin2 := infoM (mp (8 * 2 ^ (i + 1)))
          have hone := pcells_one (mp (8 * 2 ^ (i + 1)))
          have hsz : (pcells (mp (8 * 2 ^ i)) 32).size = (pcells (mp (8 * 2 ^ (i + 1))) 32).size := by rw [pcells_size, pcells_size]
          have hb0 := hT.out.1
          have h2 : 8 * 2 ^ i + 8 * 2 ^ i = 8 * 2 ^ (i + 1) := by rw [Nat.pow_succ]; omega
          have hlt := Crc.pw_step_lt HA.out (8 * (n.toNat % 2 ^ i))
          have hnext : ((p : Int) / 2).toNat = n.toNat / 2 ^ (i + 1) := by
            rw [Nat.pow_succ, ← Nat.div_div_eq_div_mul, ← hqn1]
            omega
          have HN := Aside0.mk hnext
          have HP0 := Aside0.mk hpos
          have HLT := Aside0.mk hlt
          have H2 := Aside0.mk h2
          rcases Nat.mod_two_eq_zero_or_one p with h | h
          · have hb : ((p : Int) % 2 == 1) = false := by simp only [beq_eq_false_iff_ne, ne_eq]; omega
            have hm : n.toNat % 2 ^ (i + 1) = n.toNat % 2 ^ i := mod_next0 _ _ (by rw [← hqn1]; exact h)
            have HM := Aside0.mk hm
            clear hm h hqn1 hqn hnext hlt h2 hpos
            go_wp2_with (refine wpList_load_row rfl 57 _ rfl w.heap.size rfl 57 _ _ _ hb0 Try.underlying57 rfl hin ?_)
            refine (twice_any (8 * 2 ^ i) _).mono ?_
            rintro e w5 ⟨rfl, hB5⟩
            rw [H2.out]
            have hT5 := hT.out.step hB5
            have hb5 := hT5.1
            have HT5 := Aside0.mk (hT5.all (s := 8 * 2 ^ (i + 1)))
            clear hT5 hB5 hT hb0
            go_wp2_with (refine wpList_store_row rfl 57 _ _ rfl w.heap.size (pcells (mp (8 * 2 ^ (i + 1))) 32) rfl rfl 57 _ hb5 hin2 hsz hone ?_)
            go_roundw
            case rel => exact ⟨i + 1, (p : Int) / 2, by first | rfl | (simp; done), by omega, HN, by rw [HM.out], HT5⟩
            case measure => have := HP0.out; simp [intOf]; omega
          · have hb : ((p : Int) % 2 == 1) = true := by simp only [beq_iff_eq]; omega
            have hm : Crc.pw Crc.step (8 * 2 ^ i) (Crc.pw Crc.step (8 * (n.toNat % 2 ^ i)) a) = Crc.pw Crc.step (8 * (n.toNat % 2 ^ (i + 1))) a := by
              rw [← Crc.pw_add, ← Nat.mul_add, Nat.mod_pow_succ, ← hqn1, h, Nat.mul_one, Nat.add_comm]
            have HM := Aside0.mk hm
            clear hm h hqn1 hqn hnext hlt h2 hpos
            go_wp2_with (refine wpList_load_row rfl 57 _ rfl w.heap.size rfl 57 _ _ _ hb0 Try.underlying57 rfl hin ?_)
            refine (of_any (8 * 2 ^ i) _ HLT.out _).mono ?_
            rintro e w4b ⟨rfl, hB4b⟩
            have hT4b := hT.out.step hB4b
            have hb4b := hT4b.1
            go_wp2_with (refine wpList_load_row rfl 57 _ rfl w.heap.size rfl 57 _ _ _ hb4b Try.underlying57 rfl hin ?_)
            refine (twice_any (8 * 2 ^ i) _).mono ?_
            rintro e w5 ⟨rfl, hB5⟩
            rw [H2.out]
            have hT5 := hT4b.step hB5
            have hb5 := hT5.1
            have HT5 := Aside0.mk (hT5.all (s := 8 * 2 ^ (i + 1)))
            clear hT5 hB5 hT hb0 hB4b hT4b hb4b
            go_wp2_with (refine wpList_store_row rfl 57 _ _ rfl w.heap.size (pcells (mp (8 * 2 ^ (i + 1))) 32) rfl rfl 57 _ hb5 hin2 hsz hone ?_)
            go_roundw
            case rel => exact ⟨i + 1, (p : Int) / 2, by first | rfl | (simp; done), by omega, HN, by rw [HM.out], HT5⟩
            case measure => have := HP0.out; simp [intOf]; omega
        · have hd : decide (q > 0) = false := decide_eq_false hpos
          have hz : n.toNat % 2 ^ i = n.toNat := by
            have h := hqn.out
            rw [show q.toNat = 0 from by omega] at h
            refine Nat.mod_eq_of_lt ?_
            rcases Nat.div_eq_zero_iff.1 h.symm with h | h
            · exact absurd h (Nat.ne_of_gt (Nat.two_pow_pos i))
            · exact h
          have hx := b_xor (Crc.pw Crc.step (8 * n.toNat) a) b (Crc.pw_step_lt HA.out _) HBB.out
          rw [hz]
          have HX := Aside0.mk hx
          have HBf := Aside0.mk hT.out.2
          clear hz hqn hx hT
          go_wp2_with fail
          go_ret
          exact ⟨by first | rfl | (rw [HX.out]; rfl), HBf.out⟩
/-- what winnowref1.Join answers -/
def winnowref1_Join.f (a b n : Int) : Option Int :=
  if 0 ≤ a ∧ a ≤ 4294967295 ∧ 0 ≤ b ∧ b ≤ 4294967295 ∧ n ≤ 9223372036854775807 then some (Crc.pw Crc.step (8 * n.toNat) a.toNat ^^^ b.toNat : Nat) else none
theorem winnowref1_Join.calls (a b n r : Int) (w : World) (h : winnowref1_Join.f a b n = some r) :
    Calls Try.prog 14 #[.int .u32 a, .int .u32 b, .int .i64 n] w fun e w' => e = .returned (.int .u32 r) ∧ Below w.heap.size w w' := by
  unfold winnowref1_Join.f at h
  by_cases c : 0 ≤ a ∧ a ≤ 4294967295 ∧ 0 ≤ b ∧ b ≤ 4294967295 ∧ n ≤ 9223372036854775807
  · rw [if_pos c] at h
    injection h with h
    subst h
    obtain ⟨A, rfl⟩ := Int.eq_ofNat_of_zero_le c.1
    obtain ⟨B, rfl⟩ := Int.eq_ofNat_of_zero_le c.2.2.1
    rw [Int.toNat_natCast, Int.toNat_natCast]
    exact Join_any A B n (by omega) (by omega) c.2.2.2.2 w
  · rw [if_neg c] at h
    cases h
end Go.Proofs.Ytghajggnakhobaa.Hand
