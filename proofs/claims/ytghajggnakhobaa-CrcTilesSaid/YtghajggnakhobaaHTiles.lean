/- The walk of the law on tiles, out of its callees' contracts. -/
import Derived.Test.YtghajggnakhobaaTilesPlain
import Derived.Outline
namespace Go.Proofs.Ytghajggnakhobaa.P
open Go.RowKit Go.Proofs.YtghajggnakhobaaW.PrintWords Go.Proofs.YtghajggnakhobaaW.PrintLast Go.Proofs.Ytghajggnakhobaa.Hand
set_option linter.unusedVariables false
set_option linter.unusedSimpArgs false

/-- A row of a call's own, told with the span of blocks in which it lies. -/
theorem own_in {α : Type} {d : Kd α} {e : Nat} {W : World} {B base : Nat} {v : Value} {xs : List α} (h : d.R e W B (fun _ => True) v xs) (hb : base ≤ B) : d.R e W base (fun k => B ≤ k ∧ k < W.heap.size) v xs :=
  Kd.R_lower (Kd.R_mono (Kd.R_bound h) (fun k h => ⟨h.2.1, h.2.2.1⟩)) hb

set_option maxHeartbeats 4000000 in
set_option maxRecDepth 100000 in
theorem CrcTiles_walk (A0 : Option Addr) (c0 : Nat) (l : List Int) (w : World) (hr0 : Kd.C (Kd.int .u8) w A0 l.length l) (hc0 : l.length ≤ c0) (hl : l.length ≤ 140737488351232) (h8 : R8 l) :
    Calls Try.prog 5 #[.slice A0 l.length c0] w fun e w' => e = .returned (.bool true) ∧ Below w.heap.size w w' := by
  obtain ⟨k, hk⟩ : ∃ k, 10 * (l.length + 64) + 400 < k := ⟨_, Nat.lt_succ_self _⟩
  have HR := Aside0.mk hr0
  have HC := Aside0.mk hc0
  have hroom := Aside0.mk (roomy_eq l hl k (by omega))
  have hnx := Aside0.mk (next_eq l (by omega) k (by omega))
  obtain ⟨L, hL⟩ : ∃ L, L = room l := ⟨_, rfl⟩
  have hLl : L.length = l.length + 64 := by rw [hL, room_length]
  have hsm := Aside0.mk (same_eq k L L (by omega) (by omega))
  have hLt := Aside0.mk (show L.take l.length = l by rw [hL]; exact List.take_left)
  rw [← hL] at hroom
  obtain ⟨T, hT⟩ : ∃ T, T = tile l := ⟨_, rfl⟩
  have hTl : T.length = l.length + 4 := by rw [hT, tile_length]
  have hseal := Aside0.mk (tile_eq l (by omega))
  have hrseal := Aside0.mk (rtile_eq l (by omega) k (by omega))
  rw [← hT] at hseal hrseal
  have hsmT := Aside0.mk (same_eq k T T (by omega) (by omega))
  have hfT := Aside0.mk (fill_eq k T 7 (by omega) (by omega))
  obtain ⟨Y, E, hY⟩ : ∃ Y E, opn l = (Y, E) := ⟨_, _, rfl⟩
  have hYl : Y.length ≤ l.length := by have := opn_length l; rw [hY] at this; exact this
  have hopen := Aside0.mk (opn_eq l (by omega) h8)
  have hropen := Aside0.mk (ropn_eq l (by omega) k (by omega))
  rw [hY] at hopen hropen
  have hsmY := Aside0.mk (same_eq k Y Y (by omega) (by omega))
  have hfY := Aside0.mk (fill_eq k Y 9 (by omega) (by omega))
  have il := inc_length l
  obtain ⟨I, hI⟩ : ∃ I, I = inc l := ⟨_, rfl⟩
  rw [← hI] at il hnx
  have hI8 : R8 I := by rw [hI]; exact inc_R8 l
  obtain ⟨T2, hT2⟩ : ∃ T, T = tile I := ⟨_, rfl⟩
  have hT2l : T2.length = l.length + 4 := by rw [hT2, tile_length, il]
  have hseal2 := Aside0.mk (tile_eq I (by omega))
  have hrseal2 := Aside0.mk (rtile_eq I (by omega) k (by omega))
  rw [← hT2] at hseal2 hrseal2
  have hsmT2 := Aside0.mk (same_eq k T2 T2 (by omega) (by omega))
  obtain ⟨Y2, E2, hY2⟩ : ∃ Y E, opn I = (Y, E) := ⟨_, _, rfl⟩
  have hY2l : Y2.length ≤ l.length := by have := opn_length I; rw [hY2] at this; simp only at this; omega
  have hopen2 := Aside0.mk (opn_eq I (by omega) hI8)
  have hropen2 := Aside0.mk (ropn_eq I (by omega) k (by omega))
  rw [hY2] at hopen2 hropen2
  have hsmY2 := Aside0.mk (same_eq k Y2 Y2 (by omega) (by omega))
  have HLl := Aside0.mk hLl
  have HTl := Aside0.mk hTl
  have HIl := Aside0.mk il
  have hLle : l.length ≤ L.length := by omega
  have hlmax : (l.length : Int) ≤ 9223372036854775807 := by omega
  have hwT : IntKind.i64.wrap ((T.length : Int) + 64) = ((T.length + 64 : Nat) : Int) := by rw [IntKind.wrap_i64]; omega
  have hwY : IntKind.i64.wrap ((Y.length : Int) + 64) = ((Y.length + 64 : Nat) : Int) := by rw [IntKind.wrap_i64]; omega
  obtain ⟨i0, hi0, _, _, _⟩ := info_parts info5
  have HYl := Aside0.mk hYl
  have HT2l := Aside0.mk hT2l
  have HY2l := Aside0.mk hY2l
  clear hr0 hc0 hk hL hLl hT hY hI hT2 hY2 h8 hI8 hTl hYl il hT2l hY2l
  go_enter Try.func5, Try.ntmps5
  go_wp2_with fail
  -- full
  refine (winnowlaw1_roomy.calls k A0 c0 l L w HR.out HC.out hroom.out).mono ?_
  rintro e w1 ⟨v1, rfl, hF, hB⟩
  obtain ⟨A1, c1, rfl, hc1, hC1⟩ := Kd.R_reads hF
  have hcut1 := cut_to (P := Try.prog) 25 5 .i64 Try.underlying25 hi0 A1 L.length c1 (l.length : Int) (by omega) (by omega) hc1
  rw [Int.toNat_natCast] at hcut1
  have hs1 := Aside0.mk hB.size
  have HF := Aside0.mk (own_in hF (Nat.le_refl _))
  have HB := Aside0.mk hB
  have HC1 := Aside0.mk hc1
  have hinc := Aside0.mk (show l.length ≤ c1 by omega)
  have hinC : ∀ W (S : Nat → Prop), Kd.R (Kd.int .u8) 5 W w.heap.size S (.slice A1 L.length c1) L → Kd.C (Kd.int .u8) W A1 l.length l := by
    intro W S h
    have := Kd.R_take h hLle
    rw [hLt.out] at this
    exact (Kd.R_reads' this).2.2
  clear hF hB hc1 hC1
  go_wp2_with fail
  -- t
  refine (crc_Seal.calls A1 c1 l T _ (hinC _ _ HF.out) hinc.out hseal.out).mono ?_
  rintro e w2 ⟨vt, rfl, hT, hB2⟩
  have HB2 := Aside0.mk (below_step HB.out hB2)
  have HF2 := Aside0.mk (Kd.R_below HF.out hB2)
  have HT := Aside0.mk (own_in hT (below_size HB.out))
  have hs2 := Aside0.mk hB2.size
  clear hT hB2
  go_wp2_with fail
  -- u
  refine (crc_Seal.calls A1 c1 l T _ (hinC _ _ HF2.out) hinc.out hseal.out).mono ?_
  rintro e w3 ⟨vu, rfl, hU, hB3⟩
  have HB3 := Aside0.mk (below_step HB2.out hB3)
  have HF3 := Aside0.mk (Kd.R_below HF2.out hB3)
  have HT3 := Aside0.mk (Kd.R_below HT.out hB3)
  have HU3 := Aside0.mk (own_in hU (below_size HB2.out))
  have hs3 := Aside0.mk hB3.size
  clear hU hB3
  go_wp2_with fail
  -- x, e
  refine (crc_Open.calls A1 c1 l Y E _ (hinC _ _ HF3.out) hinc.out hopen.out).mono ?_
  rintro e w4 ⟨vx, rfl, hX, hB4⟩
  have HB4 := Aside0.mk (below_step HB3.out hB4)
  have HF4 := Aside0.mk (Kd.R_below HF3.out hB4)
  have HT4 := Aside0.mk (Kd.R_below HT3.out hB4)
  have HU4 := Aside0.mk (Kd.R_below HU3.out hB4)
  have HX4 := Aside0.mk (own_in hX (below_size HB3.out))
  have hs4 := Aside0.mk hB4.size
  clear hX hB4
  go_wp2_with fail
  -- y, f
  refine (crc_Open.calls A1 c1 l Y E _ (hinC _ _ HF4.out) hinc.out hopen.out).mono ?_
  rintro e w5 ⟨vy, rfl, hY, hB5⟩
  have HB5 := Aside0.mk (below_step HB4.out hB5)
  have HF5 := Aside0.mk (Kd.R_below HF4.out hB5)
  have HT5 := Aside0.mk (Kd.R_below HT4.out hB5)
  have HU5 := Aside0.mk (Kd.R_below HU4.out hB5)
  have HX5 := Aside0.mk (Kd.R_below HX4.out hB5)
  have HY5 := Aside0.mk (own_in hY (below_size HB4.out))
  have hs5 := Aside0.mk hB5.size
  clear hY hB5
  go_wp2_with fail
  -- k
  refine (winnowlaw1_fill.calls k _ _ T 7 _ w _ HB5.out HT5.out hfT.out).mono ?_
  rintro e w6 ⟨rfl, hB6, hK6⟩
  have HB6 := Aside0.mk hB6
  have HF6 := Aside0.mk (Kd.R_kept HF5.out hK6 (fun k h => by have := hs2.out; have := hs3.out; have := hs4.out; have := hs5.out; omega))
  have HU6 := Aside0.mk (Kd.R_kept HU5.out hK6 (fun k h => by have := hs2.out; have := hs3.out; have := hs4.out; have := hs5.out; omega))
  have HX6 := Aside0.mk (Kd.R_kept HX5.out hK6 (fun k h => by have := hs2.out; have := hs3.out; have := hs4.out; have := hs5.out; omega))
  have HY6 := Aside0.mk (Kd.R_kept HY5.out hK6 (fun k h => by have := hs2.out; have := hs3.out; have := hs4.out; have := hs5.out; omega))
  clear hB6 hK6
  go_wp2_with fail
  -- j
  refine (winnowlaw1_fill.calls k _ _ Y 9 _ w _ HB6.out HX6.out hfY.out).mono ?_
  rintro e w7 ⟨rfl, hB7, hK7⟩
  have HB7 := Aside0.mk hB7
  have HF7 := Aside0.mk (Kd.R_kept HF6.out hK7 (fun k h => by have := hs2.out; have := hs3.out; have := hs4.out; have := hs5.out; omega))
  have HU7 := Aside0.mk (Kd.R_kept HU6.out hK7 (fun k h => by have := hs2.out; have := hs3.out; have := hs4.out; have := hs5.out; omega))
  have HY7 := Aside0.mk (Kd.R_kept HY6.out hK7 (fun k h => by have := hs2.out; have := hs3.out; have := hs4.out; have := hs5.out; omega))
  clear hB7 hK7
  go_wp2_with fail
  -- want, g
  refine (winnowref1_Open.calls k A0 c0 l Y E _ (Kd.C_below HR.out HB7.out) HC.out hropen.out).mono ?_
  rintro e w8 ⟨vw, rfl, hW, hB8⟩
  have HF8 := Aside0.mk (Kd.R_below HF7.out hB8)
  have HU8 := Aside0.mk (Kd.R_below HU7.out hB8)
  have HY8 := Aside0.mk (Kd.R_below HY7.out hB8)
  have HW8 := Aside0.mk (own_in hW (below_size HB7.out))
  have HB8 := Aside0.mk (below_step HB7.out hB8)
  clear hW hB8
  go_wp2_with fail
  refine (winnowref1_Seal.calls k A0 c0 l T _ (Kd.C_below HR.out HB8.out) HC.out hrseal.out).mono ?_
  rintro e w9 ⟨vs, rfl, hS, hB9⟩
  have HF9 := Aside0.mk (Kd.R_below HF8.out hB9)
  have HU9 := Aside0.mk (Kd.R_below HU8.out hB9)
  have HY9 := Aside0.mk (Kd.R_below HY8.out hB9)
  have HW9 := Aside0.mk (Kd.R_below HW8.out hB9)
  have HB9 := Aside0.mk (below_step HB8.out hB9)
  obtain ⟨Au, cu, rfl, hcu, hCu⟩ := Kd.R_reads HU9.out
  obtain ⟨As, cs, rfl, hcs, hCs⟩ := Kd.R_reads hS
  obtain ⟨Ay, cy, rfl, hcy, hCy⟩ := Kd.R_reads HY9.out
  obtain ⟨Aw, cw, rfl, hcw, hCw⟩ := Kd.R_reads HW9.out
  have Hcy := Aside0.mk hcy
  have Hcw := Aside0.mk hcw
  clear hB9 hCy hCw hS hcy hcw
  have hdT : decide (T = T) = true := decide_eq_true rfl
  have hdY : decide (Y = Y) = true := decide_eq_true rfl
  have hdL : decide (L = L) = true := decide_eq_true rfl
  go_wp2_with fail
  refine (winnowlaw1_same.calls k Au cu T As cs T _ _ hCu hcu hCs hcs hsmT.out).mono ?_
  rintro e w10 ⟨rfl, hD⟩
  have HF10 := Aside0.mk (Kd.R_below HF9.out hD.below)
  have HY10 := Aside0.mk (Kd.R_below HY9.out hD.below)
  have HW10 := Aside0.mk (Kd.R_below HW9.out hD.below)
  have HB10 := Aside0.mk (below_step HB9.out hD.below)
  clear hD hCu hcu hCs hcs
  go_wp2_with fail
  refine (winnowlaw1_same.calls k Ay cy Y Aw cw Y _ _ (Kd.R_reads' HY10.out).2.2 Hcy.out (Kd.R_reads' HW10.out).2.2 Hcw.out hsmY.out).mono ?_
  rintro e w11 ⟨rfl, hD⟩
  have HF11 := Aside0.mk (Kd.R_below HF10.out hD.below)
  have HB11 := Aside0.mk (below_step HB10.out hD.below)
  clear hD
  go_wp2_with fail
  refine (winnowlaw1_roomy.calls k A0 c0 l L _ (Kd.C_below HR.out HB11.out) HC.out hroom.out).mono ?_
  rintro e w12 ⟨vr, rfl, hR, hB12⟩
  have HF12 := Aside0.mk (Kd.R_below HF11.out hB12)
  have HB12 := Aside0.mk (below_step HB11.out hB12)
  obtain ⟨Ar, cr, rfl, hcr, hCr⟩ := Kd.R_reads hR
  clear hB12 hR
  go_wp2_with fail
  refine (winnowlaw1_same.calls k A1 c1 L Ar cr L _ _ (Kd.R_reads' HF12.out).2.2 HC1.out hCr hcr hsm.out).mono ?_
  rintro e w13 ⟨rfl, hD⟩
  have HF13 := Aside0.mk (Kd.R_below HF12.out hD.below)
  have HB13 := Aside0.mk (below_step HB12.out hD.below)
  clear hD hCr hcr
  have HF13b := Aside0.mk (Kd.R_mono (Kd.R_bound HF13.out) (ok' := fun k => k < w13.heap.size) (fun _ h => h.2.2.1))
  go_wp2_with fail
  -- other
  refine (winnowlaw1_roomy.calls k A0 c0 l L _ (Kd.C_below HR.out HB13.out) HC.out hroom.out).mono ?_
  rintro e w14 ⟨v14, rfl, hF14, hB14⟩
  have HF14 := Aside0.mk (Kd.R_below HF13b.out hB14)
  have hs14 := Aside0.mk hB14.size
  have HB14 := Aside0.mk (below_step HB13.out hB14)
  obtain ⟨A8, c8, rfl, hc8, hC8⟩ := Kd.R_reads hF14
  have HO14 := Aside0.mk (Kd.R_mono (own_in (Kd.R_take hF14 hLle) (below_size HB13.out)) (ok' := fun k => w13.heap.size ≤ k) (fun _ h => h.1))
  have HIN14 := Aside0.mk (Kd.R_take HF14.out hLle)
  rw [hLt.out] at HO14 HIN14
  have hcut8 := cut_to (P := Try.prog) 25 5 .i64 Try.underlying25 hi0 A8 L.length c8 (l.length : Int) (by omega) (by have := HLl.out; omega) hc8
  rw [Int.toNat_natCast] at hcut8
  have Hc8 := Aside0.mk (show l.length ≤ c8 by omega)
  clear hF14 hB14 hC8 hc8
  go_wp2_with fail
  refine (winnowlaw1_next.calls_in k (fun k => w13.heap.size ≤ k) _ l I w _ HB14.out HO14.out hnx.out).mono ?_
  rintro e w15 ⟨rfl, hF15, hB15, hK15⟩
  have HB15 := Aside0.mk hB15
  have HIN15 := Aside0.mk (Kd.R_kept HIN14.out hK15 (fun k h => by omega))
  have HO15 := Aside0.mk (Kd.R_mono hF15 (ok' := fun k => ¬ k < w13.heap.size) (fun k h => by have := hs14.out; omega))
  clear hF15 hB15 hK15
  go_wp2_with fail
  refine (winnowlaw1_next.calls_in k (fun k => k < w13.heap.size) _ l I w _ HB15.out HIN15.out hnx.out).mono ?_
  rintro e w16 ⟨rfl, hF16, hB16, hK16⟩
  have HB16 := Aside0.mk hB16
  have hIC := Aside0.mk (Kd.R_reads' hF16).2.2
  have hOC := Aside0.mk (Kd.R_reads' (Kd.R_kept HO15.out hK16 (fun k h => h))).2.2
  have hic1 := Aside0.mk (show I.length ≤ c1 by have := hinc.out; have := HIl.out; omega)
  have hic8 := Aside0.mk (show I.length ≤ c8 by have := Hc8.out; have := HIl.out; omega)
  clear hF16 hB16 hK16
  go_wp2_with fail
  have q := crc_Open.calls A1 c1 I Y2 E2 _ hIC.out hic1.out hopen2.out
  rw [HIl.out] at q
  refine q.mono ?_
  clear q
  rintro e w17 ⟨vz, rfl, hZ, hB17⟩
  have HB17 := Aside0.mk (below_step HB16.out hB17)
  have HI17 := Aside0.mk (Kd.C_below hIC.out hB17)
  have HO17 := Aside0.mk (Kd.C_below hOC.out hB17)
  obtain ⟨Az, cz, rfl, hcz, hCz⟩ := Kd.R_reads hZ
  have Hcz := Aside0.mk hcz
  have HZ17 := Aside0.mk hCz
  clear hB17 hZ hcz hCz
  go_wp2_with fail
  have q := winnowref1_Open.calls k A8 c8 I Y2 E2 _ HO17.out hic8.out hropen2.out
  rw [HIl.out] at q
  refine q.mono ?_
  clear q
  rintro e w18 ⟨vl, rfl, hLa, hB18⟩
  have HB18 := Aside0.mk (below_step HB17.out hB18)
  have HI18 := Aside0.mk (Kd.C_below HI17.out hB18)
  have HO18 := Aside0.mk (Kd.C_below HO17.out hB18)
  have HZ18 := Aside0.mk (Kd.C_below HZ17.out hB18)
  obtain ⟨Al, cl, rfl, hcl, hCl⟩ := Kd.R_reads hLa
  have Hcl := Aside0.mk hcl
  have HL18 := Aside0.mk hCl
  clear hB18 hLa hcl hCl
  go_wp2_with fail
  have q := crc_Seal.calls A1 c1 I T2 _ HI18.out hic1.out hseal2.out
  rw [HIl.out] at q
  refine q.mono ?_
  clear q
  rintro e w19 ⟨vt2, rfl, hT2, hB19⟩
  have HB19 := Aside0.mk (below_step HB18.out hB19)
  have HO19 := Aside0.mk (Kd.C_below HO18.out hB19)
  have HZ19 := Aside0.mk (Kd.C_below HZ18.out hB19)
  have HL19 := Aside0.mk (Kd.C_below HL18.out hB19)
  obtain ⟨Aq, cq, rfl, hcq, hCq⟩ := Kd.R_reads hT2
  have Hcq := Aside0.mk hcq
  have HQ19 := Aside0.mk hCq
  clear hB19 hT2 hcq hCq
  go_wp2_with fail
  have q := winnowref1_Seal.calls k A8 c8 I T2 _ HO19.out hic8.out hrseal2.out
  rw [HIl.out] at q
  refine q.mono ?_
  clear q
  rintro e w20 ⟨vt3, rfl, hT3, hB20⟩
  have HB20 := Aside0.mk (below_step HB19.out hB20)
  have HZ20 := Aside0.mk (Kd.C_below HZ19.out hB20)
  have HL20 := Aside0.mk (Kd.C_below HL19.out hB20)
  have HQ20 := Aside0.mk (Kd.C_below HQ19.out hB20)
  obtain ⟨Ap, cp, rfl, hcp, hCp⟩ := Kd.R_reads hT3
  have Hcp := Aside0.mk hcp
  have HP20 := Aside0.mk hCp
  clear hB20 hT3 hcp hCp
  have hdT2 : decide (T2 = T2) = true := decide_eq_true rfl
  have hdY2 : decide (Y2 = Y2) = true := decide_eq_true rfl
  go_wp2_with fail
  refine (winnowlaw1_same.calls k Aq cq T2 Ap cp T2 _ _ HQ20.out Hcq.out HP20.out Hcp.out hsmT2.out).mono ?_
  rintro e w21 ⟨rfl, hD⟩
  have HZ21 := Aside0.mk (Kd.C_below HZ20.out hD.below)
  have HL21 := Aside0.mk (Kd.C_below HL20.out hD.below)
  have HB21 := Aside0.mk (below_step HB20.out hD.below)
  clear hD
  go_wp2_with fail
  refine (winnowlaw1_same.calls k Az cz Y2 Al cl Y2 _ _ HZ21.out Hcz.out HL21.out Hcl.out hsmY2.out).mono ?_
  rintro e w22 ⟨rfl, hD⟩
  have HB22 := Aside0.mk (below_step HB21.out hD.below)
  clear hD
  go_wp2_with fail
  go_ret
  exact ⟨by first | rfl | (simp; done), HB22.out⟩

/-- The law as a function with a contract: true of whatever is not too long. -/
def winnowlaw1_CrcTiles.f (l : List Int) : Option Bool := if l.length ≤ 140737488351232 ∧ (∀ x ∈ l, 0 ≤ x ∧ x ≤ 255) then some true else none
theorem winnowlaw1_CrcTiles.calls (A0 : Option Addr) (c0 : Nat) (l : List Int) (r : Bool) (w : World) (hr0 : Kd.C (Kd.int .u8) w A0 l.length l) (hc0 : l.length ≤ c0) (h : winnowlaw1_CrcTiles.f l = some r) :
    Calls Try.prog 5 #[.slice A0 l.length c0] w fun e w' => e = .returned (.bool r) ∧ Below w.heap.size w w' := by
  unfold winnowlaw1_CrcTiles.f at h
  by_cases hl : l.length ≤ 140737488351232 ∧ (∀ x ∈ l, 0 ≤ x ∧ x ≤ 255)
  · rw [if_pos hl] at h
    injection h with h
    subst h
    exact CrcTiles_walk A0 c0 l w hr0 hc0 hl.1 hl.2
  · rw [if_neg hl] at h
    cases h
end Go.Proofs.Ytghajggnakhobaa.P
