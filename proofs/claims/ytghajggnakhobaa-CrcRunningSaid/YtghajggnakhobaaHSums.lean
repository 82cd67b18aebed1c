/- The walk of the law on sums, out of its callees' contracts: what is handed in stays; the same memory then holds other bytes. -/
import Derived.Test.YtghajggnakhobaaPlain
import Derived.Test.YtghajggnakhobaaRefSum
import Derived.Test.YtghajggnakhobaaPf15
import Derived.Test.YtghajggnakhobaaHNext
import Derived.Outline
namespace Go.Proofs.Ytghajggnakhobaa.P
open Go.RowKit Go.Proofs.YtghajggnakhobaaW.PrintWords Go.Proofs.YtghajggnakhobaaW.PrintLast Go.Proofs.Ytghajggnakhobaa.Hand
set_option linter.unusedVariables false
set_option linter.unusedSimpArgs false

/-! ### roomy, next -/
def room (l : List Int) : List Int := l ++ List.replicate 64 165
theorem room_length (l : List Int) : (room l).length = l.length + 64 := by simp [room]
theorem roomy_loop (l : List Int) (hl : l.length ≤ 140737488351232) (d : Nat) : ∀ (k i : Nat) (g : List Int), i + d = l.length + 64 → g.length = l.length + 64 → g.take i = (room l).take i → d < k →
    winnowlaw1_roomy.l0 k l g (i : Int) = some (room l) := by
  induction d with
  | zero =>
    intro k i g hi hg ht hk
    obtain ⟨k, rfl⟩ : ∃ m, k = m + 1 := ⟨k - 1, by omega⟩
    rw [winnowlaw1_roomy.l0, if_neg (by omega)]
    rw [List.take_of_length_le (by omega), List.take_of_length_le (by rw [room_length]; omega)] at ht
    rw [ht]
  | succ d ih =>
    intro k i g hi hg ht hk
    obtain ⟨k, rfl⟩ : ∃ m, k = m + 1 := ⟨k - 1, by omega⟩
    have hw : wrap64 ((i : Int) + 1) = ((i + 1 : Nat) : Int) := by unfold wrap64; omega
    have hrl := room_length l
    have step : ∀ (v : Int) (g' : List Int), g'.length = g.length → g'.take i = g.take i → (room l)[i]'(by omega) = v → (g'.set i v).take (i + 1) = (room l).take (i + 1) := by
      intro v g' hl' ht' hv
      have hs : (g'.set i v).take i = g'.take i := List.take_set_of_le (Nat.le_refl i)
      rw [List.take_succ_eq_append_getElem (by rw [List.length_set]; omega), List.take_succ_eq_append_getElem (by omega), hs, ht', ht, List.getElem_set_self, hv]
    rw [winnowlaw1_roomy.l0, if_pos (by omega), if_pos (Int.natCast_nonneg i), Option.bind_some, Int.toNat_natCast, hw]
    by_cases h : i < l.length
    · rw [if_pos (by omega)]
      refine ih k (i + 1) _ (by omega) (by rw [List.length_set, List.length_set]; exact hg) ?_ (by omega)
      refine step (rd l i) _ (by rw [List.length_set]) (List.take_set_of_le (Nat.le_refl i)) ?_
      rw [rd_nat l i h]
      simp [room, List.getElem_append, h]
    · rw [if_neg (by omega)]
      refine ih k (i + 1) _ (by omega) (by rw [List.length_set]; exact hg) ?_ (by omega)
      refine step 165 g rfl rfl ?_
      simp only [room]
      rw [List.getElem_append_right (by omega), List.getElem_replicate]
theorem roomy_eq (l : List Int) (hl : l.length ≤ 140737488351232) (k : Nat) (hk : l.length + 64 < k) : winnowlaw1_roomy.f k l = some (room l) := by
  have hw : wrap64 ((l.length : Int) + 64) = ((l.length + 64 : Nat) : Int) := by unfold wrap64; omega
  unfold winnowlaw1_roomy.f
  rw [hw, if_pos (Int.natCast_nonneg _), Int.toNat_natCast, if_pos (by omega)]
  exact roomy_loop l hl (l.length + 64) k 0 _ (by omega) (by simp) (by simp) hk
/-- every byte one more -/
def inc (l : List Int) : List Int := l.map fun x => (x + 1) % 256
theorem next_loop (l : List Int) (hl : l.length ≤ 9223372036854775806) (d : Nat) : ∀ (k i : Nat) (g : List Int), i + d = l.length → g = inc (l.take i) ++ l.drop i → d < k → winnowlaw1_next.l0 k g (i : Int) = some (inc l) := by
  induction d with
  | zero =>
    intro k i g hi hg hk
    obtain ⟨k, rfl⟩ : ∃ m, k = m + 1 := ⟨k - 1, by omega⟩
    subst hg
    have hlen : (inc (l.take i) ++ l.drop i).length = l.length := by simp [inc]; omega
    rw [winnowlaw1_next.l0, if_neg (by omega), List.take_of_length_le (by omega), List.drop_of_length_le (by omega), List.append_nil]
  | succ d ih =>
    intro k i g hi hg hk
    obtain ⟨k, rfl⟩ : ∃ m, k = m + 1 := ⟨k - 1, by omega⟩
    have hw : wrap64 ((i : Int) + 1) = ((i + 1 : Nat) : Int) := by unfold wrap64; omega
    have hil : i < l.length := by omega
    have hlen : g.length = l.length := by rw [hg]; simp [inc]; omega
    have hti : (inc (l.take i)).length = i := by simp [inc]; omega
    have hgi : g[i]'(by omega) = l[i] := by
      subst hg
      rw [List.getElem_append_right (by omega)]
      simp [hti]
    rw [winnowlaw1_next.l0, if_pos (by omega), if_pos (Int.natCast_nonneg i), Int.toNat_natCast, hw, rd_nat g i (by omega), hgi]
    refine ih k (i + 1) _ (by omega) ?_ (by omega)
    subst hg
    rw [List.set_append_right _ _ (by omega), hti, Nat.sub_self, List.drop_eq_getElem_cons hil, List.set_cons_zero, List.take_succ_eq_append_getElem hil]
    unfold inc
    rw [List.map_append, List.append_assoc]
    rfl
theorem next_eq (l : List Int) (hl : l.length ≤ 9223372036854775806) (k : Nat) (hk : l.length < k) : winnowlaw1_next.f k l = some (inc l) := by
  unfold winnowlaw1_next.f
  exact next_loop l hl l.length k 0 l (by omega) (by simp [inc]) hk
theorem inc_length (l : List Int) : (inc l).length = l.length := by simp [inc]

set_option maxHeartbeats 2000000 in
set_option maxRecDepth 100000 in
theorem CrcSums_walk (A0 : Option Addr) (c0 : Nat) (l : List Int) (s : Int) (w : World) (hr0 : Kd.C (Kd.int .u8) w A0 l.length l) (hc0 : l.length ≤ c0) (hl : l.length ≤ 140737488351232) :
    Calls Try.prog 4 #[.slice A0 l.length c0, .int .u32 s] w fun e w' => e = .returned (.bool true) ∧ Below w.heap.size w w' := by
  obtain ⟨k, hk⟩ : ∃ k, 10 * (l.length + 64) + 100 < k := ⟨_, Nat.lt_succ_self _⟩
  have HR := Aside0.mk hr0
  have HC := Aside0.mk hc0
  have HK := Aside0.mk hk
  have hroom := Aside0.mk (roomy_eq l hl k (by omega))
  have hrs := Aside0.mk (RefSum_eq l (by omega) k (by omega))
  have hre := Aside0.mk (RefExtend_eq s l (by omega) k (by omega))
  have hrs' := Aside0.mk (RefSum_eq (inc l) (by rw [inc_length]; omega) k (by rw [inc_length]; omega))
  have hre' := Aside0.mk (RefExtend_eq s (inc l) (by rw [inc_length]; omega) k (by rw [inc_length]; omega))
  have hnx := Aside0.mk (next_eq l (by omega) k (by omega))
  obtain ⟨L, hL⟩ : ∃ L, L = room l := ⟨_, rfl⟩
  have hsm := Aside0.mk (same_eq k L L (by rw [hL, room_length]; omega) (by rw [hL, room_length]; omega))
  have hLl : L.length = l.length + 64 := by rw [hL, room_length]
  have hLt := Aside0.mk (show L.take l.length = l by rw [hL]; exact List.take_left)
  rw [← hL] at hroom
  have HLl := Aside0.mk hLl
  have hLle : l.length ≤ L.length := by omega
  have hlmax : (l.length : Int) ≤ 9223372036854775807 := by omega
  obtain ⟨i0, hi0, _, _, _⟩ := info_parts info5
  clear hr0 hc0 hk hL hLl
  go_enter Try.func4, Try.ntmps4
  go_wp2_with fail
  refine (winnowlaw1_roomy.calls k A0 c0 l L w HR.out HC.out hroom.out).mono ?_
  rintro e w1 ⟨v1, rfl, hF, hB⟩
  obtain ⟨A1, c1, rfl, hc1, hC1⟩ := Kd.R_reads hF
  have hcut1 := cut_to (P := Try.prog) 25 5 .i64 Try.underlying25 hi0 A1 L.length c1 (l.length : Int) (by omega) (by omega) hc1
  rw [Int.toNat_natCast] at hcut1
  have HF := Aside0.mk hF
  have HB := Aside0.mk hB
  have HC1 := Aside0.mk hc1
  have hin := Kd.R_take hF hLle
  rw [hLt.out] at hin
  have HIN := Aside0.mk hin
  have hinC := Aside0.mk (Kd.R_reads' hin).2.2
  have hinc := Aside0.mk (show l.length ≤ c1 by omega)
  clear hF hB hc1 hC1 hin
  go_wp2_with fail
  refine (crc_Sum.calls A1 c1 l _ _ hinC.out hinc.out (Sum_eq l)).mono ?_
  rintro e w2 ⟨rfl, hB2⟩
  have HB2 := Aside0.mk (below_step HB.out hB2)
  have HF2 := Aside0.mk (Kd.R_below HF.out hB2)
  have hinC2 := Aside0.mk (Kd.C_below hinC.out hB2)
  clear hB2
  go_wp2_with fail
  refine (crc_Extend.calls s A1 c1 l _ _ hinC2.out hinc.out (Ext_eq s l)).mono ?_
  rintro e w3 ⟨rfl, hB3⟩
  have HB3 := Aside0.mk (below_step HB2.out hB3)
  have HF3 := Aside0.mk (Kd.R_below HF2.out hB3)
  clear hB3
  go_wp2_with fail
  refine (winnowref1_Sum.calls k A0 c0 l _ _ (Kd.C_below HR.out HB3.out) HC.out hrs.out).mono ?_
  rintro e w4 ⟨rfl, hD4⟩
  have HB4 := Aside0.mk (below_step HB3.out hD4.below)
  have HF4 := Aside0.mk (Kd.R_below HF3.out hD4.below)
  clear hD4
  go_wp2_with fail
  refine (winnowref1_Extend.calls k s A0 c0 l _ _ (Kd.C_below HR.out HB4.out) HC.out hre.out).mono ?_
  rintro e w5 ⟨rfl, hD5⟩
  have HB5 := Aside0.mk (below_step HB4.out hD5.below)
  have HF5 := Aside0.mk (Kd.R_below HF4.out hD5.below)
  clear hD5
  go_wp2_with fail
  refine (winnowlaw1_roomy.calls k A0 c0 l L _ (Kd.C_below HR.out HB5.out) HC.out hroom.out).mono ?_
  rintro e w6 ⟨v6, rfl, hF6, hB6⟩
  obtain ⟨A6, c6, rfl, hc6, hC6⟩ := Kd.R_reads hF6
  have HB6 := Aside0.mk (below_step HB5.out hB6)
  have HFF := Aside0.mk (Kd.R_below HF5.out hB6)
  have hCF := Aside0.mk (Kd.R_reads' HFF.out).2.2
  have HC6 := Aside0.mk hC6
  clear hB6 hF6 hC6
  go_wp2_with fail
  refine (winnowlaw1_same.calls k A1 c1 L A6 c6 L _ _ hCF.out HC1.out HC6.out hc6 hsm.out).mono ?_
  rintro e w7 ⟨rfl, hD7⟩
  have HB7 := Aside0.mk (below_step HB6.out hD7.below)
  have HF7 := Aside0.mk (Kd.R_below HFF.out hD7.below)
  clear hD7 hc6 HC6 hCF
  have hdec : decide (L = L) = true := decide_eq_true rfl
  have HF7b := Aside0.mk (Kd.R_mono (Kd.R_bound HF7.out) (ok' := fun k => k < w7.heap.size) (fun _ h => h.2.2.1))
  go_wp2_with fail
  refine (winnowlaw1_roomy.calls k A0 c0 l L _ (Kd.C_below HR.out HB7.out) HC.out hroom.out).mono ?_
  rintro e w8 ⟨v8, rfl, hF8, hB8⟩
  have HF8 := Aside0.mk (Kd.R_below HF7b.out hB8)
  have hs8 := Aside0.mk hB8.size
  have HB8 := Aside0.mk (below_step HB7.out hB8)
  obtain ⟨A8, c8, rfl, hc8, hC8⟩ := Kd.R_reads hF8
  have HO8 := Aside0.mk (Kd.R_lower (Kd.R_mono (Kd.R_bound (Kd.R_take hF8 hLle)) (ok' := fun k => w7.heap.size ≤ k) (fun _ h => h.2.1)) (below_size HB7.out))
  have HIN8 := Aside0.mk (Kd.R_take HF8.out hLle)
  rw [hLt.out] at HO8 HIN8
  have hcut8 := cut_to (P := Try.prog) 25 5 .i64 Try.underlying25 hi0 A8 L.length c8 (l.length : Int) (by omega) (by omega) hc8
  rw [Int.toNat_natCast] at hcut8
  clear hF8 hB8 hC8
  go_wp2_with fail
  refine (winnowlaw1_next.calls_in k (fun k => w7.heap.size ≤ k) _ l (inc l) w _ HB8.out HO8.out hnx.out).mono ?_
  rintro e w9 ⟨rfl, hF9, hB9, hK9⟩
  have HB9 := Aside0.mk hB9
  have HIN9 := Aside0.mk (Kd.R_kept HIN8.out hK9 (fun k h => by omega))
  have HF9 := Aside0.mk (Kd.R_mono (Kd.R_bound hF9) (ok' := fun k => ¬ k < w7.heap.size) (fun k h => by have := hs8.out; omega))
  clear hF9 hB9 hK9
  go_wp2_with fail
  refine (winnowlaw1_next.calls_in k (fun k => k < w7.heap.size) _ l (inc l) w _ HB9.out HIN9.out hnx.out).mono ?_
  rintro e w10 ⟨rfl, hF10, hB10, hK10⟩
  have HB10 := Aside0.mk hB10
  have HIN10 := Aside0.mk hF10
  have HO10 := Aside0.mk (Kd.R_kept HF9.out hK10 (fun k h => h))
  clear hF10 hB10 hK10
  have il := inc_length l
  have hIC := Aside0.mk (Kd.R_reads' HIN10.out).2.2
  have hOC := Aside0.mk (Kd.R_reads' HO10.out).2.2
  have hic1 := Aside0.mk (show (inc l).length ≤ c1 by have := hinc.out; omega)
  have hic8 := Aside0.mk (show (inc l).length ≤ c8 by omega)
  go_wp2_with fail
  have q := crc_Sum.calls A1 c1 (inc l) _ _ hIC.out hic1.out (Sum_eq (inc l))
  rw [il] at q
  refine q.mono ?_
  clear q
  rintro e w11 ⟨rfl, hB11⟩
  have HB11 := Aside0.mk (below_step HB10.out hB11)
  have hIC11 := Aside0.mk (Kd.C_below hIC.out hB11)
  have hOC11 := Aside0.mk (Kd.C_below hOC.out hB11)
  clear hB11
  go_wp2_with fail
  have q := winnowref1_Sum.calls k A8 c8 (inc l) _ _ hOC11.out hic8.out hrs'.out
  rw [il] at q
  refine q.mono ?_
  clear q
  rintro e w12 ⟨rfl, hD12⟩
  have HB12 := Aside0.mk (below_step HB11.out hD12.below)
  have hIC12 := Aside0.mk (Kd.C_below hIC11.out hD12.below)
  have hOC12 := Aside0.mk (Kd.C_below hOC11.out hD12.below)
  clear hD12
  go_wp2_with fail
  have q := crc_Extend.calls s A1 c1 (inc l) _ _ hIC12.out hic1.out (Ext_eq s (inc l))
  rw [il] at q
  refine q.mono ?_
  clear q
  rintro e w13 ⟨rfl, hB13⟩
  have HB13 := Aside0.mk (below_step HB12.out hB13)
  have hOC13 := Aside0.mk (Kd.C_below hOC12.out hB13)
  clear hB13
  go_wp2_with fail
  have q := winnowref1_Extend.calls k s A8 c8 (inc l) _ _ hOC13.out hic8.out hre'.out
  rw [il] at q
  refine q.mono ?_
  clear q
  rintro e w14 ⟨rfl, hD14⟩
  have HB14 := Aside0.mk (below_step HB13.out hD14.below)
  clear hD14
  go_wp2_with fail
  go_ret
  exact ⟨by first | rfl | (simp; done), HB14.out⟩
/-- The law as a function with a contract: true of whatever is not too long. -/
def winnowlaw1_CrcSums.f (l : List Int) (s : Int) : Option Bool := if l.length ≤ 140737488351232 then some true else none
theorem winnowlaw1_CrcSums.calls (A0 : Option Addr) (c0 : Nat) (l : List Int) (s : Int) (r : Bool) (w : World) (hr0 : Kd.C (Kd.int .u8) w A0 l.length l) (hc0 : l.length ≤ c0) (h : winnowlaw1_CrcSums.f l s = some r) :
    Calls Try.prog 4 #[.slice A0 l.length c0, .int .u32 s] w fun e w' => e = .returned (.bool r) ∧ Below w.heap.size w w' := by
  unfold winnowlaw1_CrcSums.f at h
  by_cases hl : l.length ≤ 140737488351232
  · rw [if_pos hl] at h
    injection h with h
    subst h
    exact CrcSums_walk A0 c0 l s w hr0 hc0 hl
  · rw [if_neg hl] at h
    cases h
end Go.Proofs.Ytghajggnakhobaa.P
