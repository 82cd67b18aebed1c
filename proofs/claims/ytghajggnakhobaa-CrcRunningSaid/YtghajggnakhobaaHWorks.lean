/- works: a tile is made and opened, and the sum of the nine digits is the one that everybody knows; a contract by hand (bytes of a constant text). -/
import Derived.Test.YtghajggnakhobaaPf22
import Derived.Test.YtghajggnakhobaaPf23
import Derived.Test.YtghajggnakhobaaPf20
import Derived.Test.YtghajggnakhobaaPf16
import Derived.Lib.SlBytesConst
import Derived.Outline
namespace Go.Proofs.Ytghajggnakhobaa.Hand
open Go.RowKit Go.Proofs.YtghajggnakhobaaW.PrintWords Go.Proofs.YtghajggnakhobaaW.PrintLast Go.Proofs.Ytghajggnakhobaa.P
set_option linter.unusedVariables false
set_option linter.unusedSimpArgs false

theorem C_of_block {k : IntKind} {W : World} {g : Nat} {t : TypeId} {fr : Nat × Nat} (l : List Int) {cs : Array Value} (h : W.heap[g]? = some (.cells cs t fr)) (hcs : cs = (l.map (Value.int k)).toArray) (hl : l.length ≤ 9223372036854775807) :
    Kd.C (Kd.int k) W (some ⟨g, 0, none⟩) l.length l := by
  refine ⟨rfl, hl, fun _ => ⟨_, rfl, fun j p hj => ⟨[.int k p], rfl, rfl, fun i u hu => ?_⟩⟩⟩
  have hi : i = 0 := by
    rcases i with _ | i
    · rfl
    · simp at hu
  subst hi
  have hu' : Value.int k p = u := by simpa using hu
  subst hu'
  have e : (⟨g, 0, none⟩ : Addr).add (j * (Kd.int k).sz + 0) = ⟨g, j, none⟩ := by
    show (⟨g, 0, none⟩ : Addr).add (j * 1 + 0) = _
    rw [Nat.mul_one, Nat.add_zero]
    exact add_plain g j
  rw [e, cell_of_row W g j cs t fr h, hcs]
  simp [hj]

def tile : List Int := [1, 2, 3, 30, 242, 48, 241]
theorem seal_is : crc_Seal.f [1, 2, 3] = some tile := by decide +kernel
theorem open_is : crc_Open.f tile = some ([1, 2, 3], 0) := by decide +kernel
theorem same_is : winnowlaw1_same.f 5 [1, 2, 3] [1, 2, 3] = some true := by decide +kernel
theorem sum_is : crc_Sum.f [49, 50, 51, 52, 53, 54, 55, 56, 57] = some 3808858755 := by decide +kernel

def winnowlaw1_works.f : Option Bool := some true
set_option maxHeartbeats 1000000 in
theorem winnowlaw1_works.calls (r : Bool) (w : World) (h : winnowlaw1_works.f = some r) :
    Calls Try.prog 27 #[] w fun e w' => e = .returned (.bool r) ∧ Below w.heap.size w w' := by
  obtain rfl := Option.some.inj h
  clear h
  have kc := fun (w : World) (C : Array Value) (n c : Nat) => Lib.run_convert_bytes_const (P := Try.prog) w 25 5 C n c Try.underlying25 Try.underlying5
  go_enter Try.func27, Try.ntmps27
  go_wp2_with fail
  refine (crc_Seal.calls (some ⟨w.heap.size, 0, none⟩) 3 [1, 2, 3] tile _ (C_of_block [1, 2, 3] (heap_alloc_new w _) rfl (by decide)) (by decide) seal_is).mono ?_
  rintro e w1 ⟨v1, rfl, hR1, hB1⟩
  obtain ⟨A1, c1, rfl, hc1, hC1⟩ := Kd.R_reads hR1
  go_wp2_with fail
  refine (crc_Open.calls A1 c1 tile [1, 2, 3] 0 _ hC1 hc1 open_is).mono ?_
  rintro e w2 ⟨v2, rfl, hR2, hB2⟩
  obtain ⟨A2, c2, rfl, hc2, hC2⟩ := Kd.R_reads hR2
  have HB2 : Aside0 (Below w.heap.size w w2) := ⟨below_step (below_step (below_alloc (Below.refl _ _) _) hB1) hB2⟩
  clear hR1 hR2 hB1 hB2 hC1
  have HC2 := Aside0.mk hC2
  clear hC2
  go_wp2_with fail
  refine (winnowlaw1_same.calls 5 A2 c2 [1, 2, 3] (some ⟨w2.heap.size, 0, none⟩) 3 [1, 2, 3] true _ (Kd.C_below HC2.out (below_alloc (Below.refl _ _) _)) hc2 (C_of_block [1, 2, 3] (heap_alloc_new w2 _) rfl (by decide)) (by decide) same_is).mono ?_
  rintro e w3 ⟨rfl, hB3⟩
  have HB3 : Aside0 (Below w.heap.size w w3) := ⟨below_step (below_alloc HB2.out _) hB3.below⟩
  clear hB3 HC2
  go_wp2_with fail
  refine (crc_Sum.calls (some ⟨w3.heap.size, 0, none⟩) 9 [49, 50, 51, 52, 53, 54, 55, 56, 57] 3808858755 _ (C_of_block [49, 50, 51, 52, 53, 54, 55, 56, 57] (heap_alloc_new w3 _) rfl (by decide)) (by decide) sum_is).mono ?_
  rintro e w4 ⟨rfl, hB4⟩
  have HB4 : Aside0 (Below w.heap.size w w4) := ⟨below_step (below_alloc HB3.out _) hB4⟩
  clear hB4
  go_wp2_with fail
  go_ret
  exact ⟨rfl, HB4.out⟩
end Go.Proofs.Ytghajggnakhobaa.Hand
