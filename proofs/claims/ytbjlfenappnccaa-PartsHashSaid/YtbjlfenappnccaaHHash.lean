/- Hash, the program's and the document's: the sum of the key's bytes, modulo the parts; contracts by hand. -/
import Derived.Test.YtbjlfenappnccaaPf23
import Derived.Test.YtbjlfenappnccaaPf22
import Derived.Test.YtbjlfenappnccaaRefSum
import Derived.Lib.ConvBytes
import Derived.Outline
namespace Go.Proofs.Ytbjlfenappnccaa.Hand
open Go.RowKit Go.Proofs.YtbjlfenappnccaaW.PrintWords Go.Proofs.YtbjlfenappnccaaW.PrintLast Go.Proofs.Ytbjlfenappnccaa.P
set_option linter.unusedVariables false
set_option linter.unusedSimpArgs false

/-- what a key's part is -/
def hashI (s : ByteArray) (n : Int) : Int := if 1 ≤ n ∧ n ≤ 65535 then extI 0 (bytesOf s) % n else 0
def parts_Hash.f (a0 : ByteArray) (a1 : Int) : Option Int := if a0.size ≤ 140737488351232 then some (hashI a0 a1) else none
def winnowref14_Hash.f (a0 : ByteArray) (a1 : Int) : Option Int := if a0.size ≤ 140737488351232 then some (hashI a0 a1) else none

theorem below_bytes (w : World) (e : TypeId) (s : ByteArray) : Below w.heap.size w (Lib.bytesWorld w e s) :=
  ⟨rfl, rfl, rfl, by rw [Lib.bytesWorld_size]; omega, fun i hi => Lib.bytesWorld_at_old w e s i hi⟩
theorem C_bytes (w : World) (s : ByteArray) (h : s.size ≤ 9223372036854775807) : Kd.C (Kd.int .u8) (Lib.bytesWorld w 5 s) (some ⟨w.heap.size, 0, none⟩) (bytesOf s).length (bytesOf s) := by
  refine ⟨rfl, by rw [bytesOf_length]; exact h, fun _ => ⟨_, rfl, fun j p hj => ⟨[.int .u8 p], rfl, rfl, fun i u hu => ?_⟩⟩⟩
  have hi : i = 0 := by
    rcases i with _ | i
    · rfl
    · simp at hu
  subst hi
  have hu' : Value.int .u8 p = u := by simpa using hu
  subst hu'
  have e : (⟨w.heap.size, 0, none⟩ : Addr).add (j * (Kd.int .u8).sz + 0) = ⟨w.heap.size, j, none⟩ := by
    show (⟨w.heap.size, 0, none⟩ : Addr).add (j * 1 + 0) = _
    rw [Nat.mul_one, Nat.add_zero]
    exact add_plain _ j
  have hj' : (s.data.toList.map fun b => (b.toNat : Int))[j]? = some p := hj
  rw [List.getElem?_map, Option.map_eq_some_iff] at hj'
  obtain ⟨b, hb, rfl⟩ := hj'
  have hl' : j < s.size := by
    have := (List.getElem?_eq_some_iff.1 hb).1
    rw [data_length] at this
    exact this
  rw [e, Lib.bytesWorld_cell w 5 s j hl', List.getD_eq_getElem?_getD, hb]
  rfl
/-- Sum of the bytes of a text that has just been converted. -/
theorem sum_conv (s : ByteArray) (hs : s.size ≤ 140737488351232) (w : World) : Calls Try.prog 23 #[.slice (some ⟨w.heap.size, 0, none⟩) s.size (grownCap w s.size 0 5)] (Lib.bytesWorld w 5 s) fun e w' => e = .returned (.int .u32 (extI 0 (bytesOf s))) ∧ Below (Lib.bytesWorld w 5 s).heap.size (Lib.bytesWorld w 5 s) w' := by
  have h := crc_Sum.calls (some ⟨w.heap.size, 0, none⟩) (grownCap w s.size 0 5) (bytesOf s) (extI 0 (bytesOf s)) (Lib.bytesWorld w 5 s) (C_bytes w s (by omega)) (by rw [bytesOf_length]; exact grownCap_ge _ _ _ _) rfl
  rw [bytesOf_length] at h
  exact h
theorem rsum_conv (s : ByteArray) (hs : s.size ≤ 140737488351232) (w : World) : Calls Try.prog 24 #[.slice (some ⟨w.heap.size, 0, none⟩) s.size (grownCap w s.size 0 5)] (Lib.bytesWorld w 5 s) fun e w' => e = .returned (.int .u32 (extI 0 (bytesOf s))) ∧ Drawn0 (Lib.bytesWorld w 5 s) w' := by
  have h := winnowref1_Sum.calls (10 * (bytesOf s).length + 1) (some ⟨w.heap.size, 0, none⟩) (grownCap w s.size 0 5) (bytesOf s) (extI 0 (bytesOf s)) (Lib.bytesWorld w 5 s) (C_bytes w s (by omega)) (by rw [bytesOf_length]; exact grownCap_ge _ _ _ _) (RefSum_eq _ (by rw [bytesOf_length]; omega) _ (by omega))
  rw [bytesOf_length] at h
  exact h
theorem ext_in (s : ByteArray) : 0 ≤ extI 0 (bytesOf s) ∧ extI 0 (bytesOf s) < 4294967296 := by
  have h : ∀ c ∈ (bytesOf s).map n32, c < 2 ^ 32 := fun c hc => by obtain ⟨z, _, rfl⟩ := List.mem_map.1 hc; exact n32_lt z
  have : Crc.ext (n32 0) ((bytesOf s).map n32) < 2 ^ 32 := Nat.xor_lt_two_pow (run_lt _ _ (Nat.xor_lt_two_pow (n32_lt 0) mask_lt) h) mask_lt
  unfold extI
  omega

set_option maxHeartbeats 1000000 in
theorem parts_Hash.calls (a0 : ByteArray) (a1 : Int) (r : Int) (w : World) (h : parts_Hash.f a0 a1 = some r) :
    Calls Try.prog 8 #[.string a0, .int .i64 a1] w fun e w' => e = .returned (.int .i64 r) ∧ Below w.heap.size w w' := by
  unfold parts_Hash.f at h
  by_cases hs : a0.size ≤ 140737488351232
  · rw [if_pos hs] at h
    obtain rfl := Option.some.inj h
    clear h
    have kc := fun (w : World) => Lib.run_convert_string_bytes (P := Try.prog) w 9 47 5 a0 Try.underlying9 Try.underlying47 Try.underlying5
    by_cases hn : 1 ≤ a1 ∧ a1 ≤ 65535
    · have hg : parts_good.f a1 = some true := by unfold parts_good.f; rw [if_pos hn.1, decide_eq_true hn.2]
      have hI : hashI a0 a1 = extI 0 (bytesOf a0) % a1 := by unfold hashI; rw [if_pos hn]
      have hx := ext_in a0
      obtain ⟨x, hX⟩ : ∃ x, x = extI 0 (bytesOf a0) := ⟨_, rfl⟩
      have hm0 : 0 ≤ x % a1 := Int.emod_nonneg _ (by omega)
      have hm1 : x % a1 < a1 := Int.emod_lt_of_pos _ (by omega)
      rw [← hX] at hx hI
      have hSum := sum_conv a0 hs
      rw [← hX] at hSum
      have HS := Aside0.mk hSum
      obtain ⟨hn1, hn2⟩ := hn
      obtain ⟨hx1, hx2⟩ := hx
      have HI := Aside0.mk hI
      clear hI hX hSum
      have hw1 : IntKind.u32.wrap a1 = a1 := by rw [IntKind.wrap_u32]; omega
      have hne : ¬ a1 = 0 := by omega
      go_enter Try.func8, Try.ntmps8
      go_wp2_with fail
      refine (parts_good.calls a1 true w hg).mono ?_
      rintro e w1 ⟨rfl, hD⟩
      go_wp2_with fail
      refine (HS.out w1).mono ?_
      rintro e w2 ⟨rfl, hB⟩
      have HB : Aside0 (Below w.heap.size w w2) := ⟨below_step (below_step hD.below (below_bytes w1 5 a0)) hB⟩
      clear hB hD
      go_wp2_with fail
      go_ret
      exact ⟨congrArg (fun z => Ending.returned (.int .i64 z)) HI.out.symm, HB.out⟩
    · have hg : parts_good.f a1 = some false := by
        unfold parts_good.f
        by_cases h1 : 1 ≤ a1
        · rw [if_pos h1, decide_eq_false (by omega)]
        · rw [if_neg h1]
      have hI : hashI a0 a1 = 0 := by unfold hashI; rw [if_neg hn]
      have HI := Aside0.mk hI
      clear hI hn
      go_enter Try.func8, Try.ntmps8
      go_wp2_with fail
      refine (parts_good.calls a1 false w hg).mono ?_
      rintro e w1 ⟨rfl, hD⟩
      go_wp2_with fail
      go_ret
      exact ⟨congrArg (fun z => Ending.returned (.int .i64 z)) HI.out.symm, hD.below⟩
  · rw [if_neg hs] at h; cases h

set_option maxHeartbeats 1000000 in
theorem winnowref14_Hash.calls (a0 : ByteArray) (a1 : Int) (r : Int) (w : World) (h : winnowref14_Hash.f a0 a1 = some r) :
    Calls Try.prog 9 #[.string a0, .int .i64 a1] w fun e w' => e = .returned (.int .i64 r) ∧ Below w.heap.size w w' := by
  unfold winnowref14_Hash.f at h
  by_cases hs : a0.size ≤ 140737488351232
  · rw [if_pos hs] at h
    obtain rfl := Option.some.inj h
    clear h
    have kc := fun (w : World) => Lib.run_convert_string_bytes (P := Try.prog) w 9 47 5 a0 Try.underlying9 Try.underlying47 Try.underlying5
    by_cases hn : 1 ≤ a1 ∧ a1 ≤ 65535
    · have hI : hashI a0 a1 = extI 0 (bytesOf a0) % a1 := by unfold hashI; rw [if_pos hn]
      have hx := ext_in a0
      obtain ⟨x, hX⟩ : ∃ x, x = extI 0 (bytesOf a0) := ⟨_, rfl⟩
      have hm0 : 0 ≤ x % a1 := Int.emod_nonneg _ (by omega)
      have hm1 : x % a1 < a1 := Int.emod_lt_of_pos _ (by omega)
      rw [← hX] at hx hI
      have hSum := rsum_conv a0 hs
      rw [← hX] at hSum
      have HS := Aside0.mk hSum
      obtain ⟨hn1, hn2⟩ := hn
      obtain ⟨hx1, hx2⟩ := hx
      have HI := Aside0.mk hI
      clear hI hX hSum
      have hw1 : IntKind.u32.wrap a1 = a1 := by rw [IntKind.wrap_u32]; omega
      have hne : ¬ a1 = 0 := by omega
      go_enter Try.func9, Try.ntmps9
      go_wp2_with fail
      refine (HS.out w).mono ?_
      rintro e w2 ⟨rfl, hB⟩
      have HB : Aside0 (Below w.heap.size w w2) := ⟨below_step (below_bytes w 5 a0) hB.below⟩
      clear hB
      go_wp2_with fail
      go_ret
      exact ⟨congrArg (fun z => Ending.returned (.int .i64 z)) HI.out.symm, HB.out⟩
    · have hI : hashI a0 a1 = 0 := by unfold hashI; rw [if_neg hn]
      have HI := Aside0.mk hI
      clear hI
      by_cases h1 : a1 < 1
      · clear hn
        go_enter Try.func9, Try.ntmps9
        go_wp2_with fail
        go_ret
        exact ⟨congrArg (fun z => Ending.returned (.int .i64 z)) HI.out.symm, Below.refl _ _⟩
      · have h2 : 65535 < a1 := by omega
        clear hn
        go_enter Try.func9, Try.ntmps9
        go_wp2_with fail
        go_ret
        exact ⟨congrArg (fun z => Ending.returned (.int .i64 z)) HI.out.symm, Below.refl _ _⟩
  · rw [if_neg hs] at h; cases h
end Go.Proofs.Ytbjlfenappnccaa.Hand
