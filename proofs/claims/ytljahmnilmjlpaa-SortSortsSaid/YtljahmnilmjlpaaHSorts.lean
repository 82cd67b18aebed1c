/- The walk of the law on sorting, out of its callees' contracts: what is handed in stays, answers are new memory, and again when the same list has been turned round. -/
import Derived.Test.YtljahmnilmjlpaaSortPlain
import Derived.Outline
namespace Go.Proofs.Ytljahmnilmjlpaa.P
open Go.RowKit Go.Proofs.YtljahmnilmjlpaaW.PrintWords Go.Proofs.YtljahmnilmjlpaaW.PrintLast Go.Proofs.Ytljahmnilmjlpaa.Hand
set_option linter.unusedVariables false
set_option linter.unusedSimpArgs false

/-- A row of a call's own, told with the span of blocks in which it lies. -/
theorem own_in {α : Type} {d : Kd α} {e : Nat} {W : World} {B base : Nat} {v : Value} {xs : List α} (h : d.R e W B (fun _ => True) v xs) (hb : base ≤ B) : d.R e W base (fun k => B ≤ k ∧ k < W.heap.size) v xs :=
  Kd.R_lower (Kd.R_mono (Kd.R_bound h) (fun k h => ⟨h.2.1, h.2.2.1⟩)) hb

set_option maxHeartbeats 4000000 in
set_option maxRecDepth 100000 in
theorem SortSorts_walk (A0 : Option Addr) (c0 : Nat) (l : List S23) (w : World) (hr0 : Kd.C k23 w A0 l.length l) (hc0 : l.length ≤ c0) (hl : l.length ≤ 3518437208780) (hx : okR l) :
    Calls Try.prog 4 #[.slice A0 l.length c0] w fun e w' => e = .returned (.bool true) ∧ Below w.heap.size w w' := by
  obtain ⟨k, hk⟩ : ∃ k, l.length * (l.length + 2) + 10 * (l.length + 64) + 400 < k := ⟨_, Nat.lt_succ_self _⟩
  have HR := Aside0.mk hr0
  have HC := Aside0.mk hc0
  have hroom := Aside0.mk (roomy_eq l hl k (by omega))
  obtain ⟨L, hL⟩ : ∃ L, L = room l := ⟨_, rfl⟩
  have hLl : L.length = l.length + 64 := by rw [hL, room_length]
  have hsm := Aside0.mk (same_eq L (by omega) k (by omega))
  have hLt := Aside0.mk (show L.take l.length = l by rw [hL]; exact List.take_left)
  rw [← hL] at hroom
  obtain ⟨T, hT⟩ : ∃ T, T = St.isort leR l := ⟨_, rfl⟩
  have hTl : T.length = l.length := by rw [hT, St.isort_length]
  have hsort := Aside0.mk (show sortbuf_Sort.f l = some T by unfold sortbuf_Sort.f; rw [if_pos ⟨by omega, hx⟩, hT])
  have hrsort := Aside0.mk (show winnowref10_Sort.f k l = some T by rw [RefSort_eq l (by omega) k (by omega), hT])
  have hsmT := Aside0.mk (same_eq T (by omega) k (by omega))
  have hsp := Aside0.mk (spoil_eq T 1000001 (by omega) k (by omega))
  rw [hTl] at hsp
  obtain ⟨I, hI⟩ : ∃ I, I = l.reverse := ⟨_, rfl⟩
  have il : I.length = l.length := by rw [hI, List.length_reverse]
  have hback := Aside0.mk (back_eq l (by omega) k (by omega))
  rw [← hI] at hback
  obtain ⟨T2, hT2⟩ : ∃ T, T = St.isort leR I := ⟨_, rfl⟩
  have hT2l : T2.length = l.length := by rw [hT2, St.isort_length, il]
  have hsort2 := Aside0.mk (show sortbuf_Sort.f I = some T2 by unfold sortbuf_Sort.f; rw [if_pos ⟨by omega, fun x h => hx x (by rw [hI] at h; exact List.mem_reverse.1 h)⟩, hT2])
  have hrsort2 := Aside0.mk (show winnowref10_Sort.f k I = some T2 by rw [RefSort_eq I (by omega) k (by rw [il]; omega), hT2])
  have hsmT2 := Aside0.mk (same_eq T2 (by omega) k (by omega))
  have HLl := Aside0.mk hLl
  have HTl := Aside0.mk hTl
  have HIl := Aside0.mk il
  have hLle : l.length ≤ L.length := by omega
  have hlmax : (l.length : Int) ≤ 3518437208780 := by omega
  have hwL : IntKind.i64.wrap ((l.length : Int) + 64) = ((l.length + 64 : Nat) : Int) := by rw [IntKind.wrap_i64]; omega
  obtain ⟨i0, hi0, _, _, _⟩ := info_parts info23
  clear hr0 hc0 hk hL hLl hT hI hT2 hTl il hT2l hx hl
  go_enter Try.func4, Try.ntmps4
  go_wp2_with fail
  -- full
  refine (winnowlaw10_roomy.calls k A0 c0 l L w HR.out HC.out hroom.out).mono ?_
  rintro e w1 ⟨v1, rfl, hF, hB⟩
  obtain ⟨A1, c1, rfl, hc1, hC1⟩ := Kd.R_reads hF
  have hcut1 := cut_to (P := Try.prog) 27 23 .i64 Try.underlying27 hi0 A1 L.length c1 (l.length : Int) (by omega) (by have := HLl.out; omega) hc1
  rw [Int.toNat_natCast] at hcut1
  have hs1 := Aside0.mk hB.size
  have HF := Aside0.mk (own_in hF (Nat.le_refl _))
  have HB := Aside0.mk hB
  have HC1 := Aside0.mk hc1
  have hinc := Aside0.mk (show l.length ≤ c1 by have := HLl.out; omega)
  have hinC : ∀ W (S : Nat → Prop), Kd.R k23 23 W w.heap.size S (.slice A1 L.length c1) L → Kd.C k23 W A1 l.length l := by
    intro W S h
    have := Kd.R_take h hLle
    rw [hLt.out] at this
    exact (Kd.R_reads' this).2.2
  have HinC := Aside0.mk hinC
  clear hF hB hc1 hC1 hinC
  go_wp2_with fail
  -- a
  refine (sortbuf_Sort.calls A1 c1 l T _ (HinC.out _ _ HF.out) hinc.out hsort.out).mono ?_
  rintro e w2 ⟨vt, rfl, hT, hB2⟩
  have HB2 := Aside0.mk (below_step HB.out hB2)
  have HF2 := Aside0.mk (Kd.R_below HF.out hB2)
  have HT := Aside0.mk (own_in hT (below_size HB.out))
  have hs2 := Aside0.mk hB2.size
  clear hT hB2
  go_wp2_with fail
  -- b
  refine (sortbuf_Sort.calls A1 c1 l T _ (HinC.out _ _ HF2.out) hinc.out hsort.out).mono ?_
  rintro e w3 ⟨vu, rfl, hU, hB3⟩
  have HB3 := Aside0.mk (below_step HB2.out hB3)
  have HF3 := Aside0.mk (Kd.R_below HF2.out hB3)
  have HT3 := Aside0.mk (Kd.R_below HT.out hB3)
  have HU3 := Aside0.mk (own_in hU (below_size HB2.out))
  have hs3 := Aside0.mk hB3.size
  clear hU hB3
  go_wp2_with fail
  -- k
  refine (winnowlaw10_spoil.calls k _ _ T 1000001 _ w _ HB3.out HT3.out hsp.out).mono ?_
  rintro e w4 ⟨rfl, hB4, hK4⟩
  have HB4 := Aside0.mk hB4
  have HF4 := Aside0.mk (Kd.R_kept HF3.out hK4 (fun k h => by have := hs2.out; have := hs3.out; omega))
  have HU4 := Aside0.mk (Kd.R_kept HU3.out hK4 (fun k h => by have := hs2.out; have := hs3.out; omega))
  have hs4 := Aside0.mk hK4.1
  clear hB4 hK4
  go_wp2_with fail
  -- ref
  refine (winnowref10_Sort.calls k A0 c0 l T _ (Kd.C_below HR.out HB4.out) HC.out hrsort.out).mono ?_
  rintro e w5 ⟨vw, rfl, hW, hB5⟩
  have HF5 := Aside0.mk (Kd.R_below HF4.out hB5)
  have HU5 := Aside0.mk (Kd.R_below HU4.out hB5)
  have hs5 := Aside0.mk hB5.size
  have HB5 := Aside0.mk (below_step HB4.out hB5)
  obtain ⟨Aw, cw, rfl, hcw, hCw⟩ := Kd.R_reads hW
  obtain ⟨Au, cu, rfl, hcu, hCu⟩ := Kd.R_reads HU5.out
  have Hcu := Aside0.mk hcu
  clear hW hB5
  go_wp2_with fail
  refine (winnowlaw10_sameRecords.calls k Au cu T Aw cw T _ _ hCu hcu hCw hcw hsmT.out).mono ?_
  rintro e w6 ⟨rfl, hD⟩
  have HF6 := Aside0.mk (Kd.R_below HF5.out hD.below)
  have HU6 := Aside0.mk (Kd.R_below HU5.out hD.below)
  have HB6 := Aside0.mk (below_step HB5.out hD.below)
  have hs6 := Aside0.mk hD.below.size
  clear hD hCu hcu hCw hcw
  go_wp2_with fail
  refine (winnowlaw10_roomy.calls k A0 c0 l L _ (Kd.C_below HR.out HB6.out) HC.out hroom.out).mono ?_
  rintro e w7 ⟨vr, rfl, hR, hB7⟩
  have HF7 := Aside0.mk (Kd.R_below HF6.out hB7)
  have HU7 := Aside0.mk (Kd.R_below HU6.out hB7)
  have HB7 := Aside0.mk (below_step HB6.out hB7)
  have hs7 := Aside0.mk hB7.size
  obtain ⟨Ar, cr, rfl, hcr, hCr⟩ := Kd.R_reads hR
  clear hB7 hR
  go_wp2_with fail
  refine (winnowlaw10_sameRecords.calls k A1 c1 L Ar cr L _ _ (Kd.R_reads' HF7.out).2.2 HC1.out hCr hcr hsm.out).mono ?_
  rintro e w8 ⟨rfl, hD⟩
  have HF8 := Aside0.mk (Kd.R_below HF7.out hD.below)
  have HU8 := Aside0.mk (Kd.R_below HU7.out hD.below)
  have HB8 := Aside0.mk (below_step HB7.out hD.below)
  have hs8 := Aside0.mk hD.below.size
  clear hD hCr hcr
  have HIN8 := Aside0.mk (Kd.R_take HF8.out hLle)
  rw [hLt.out] at HIN8
  go_wp2_with fail
  -- back(full)
  refine (winnowlaw10_back.calls_in k _ _ l I w _ HB8.out HIN8.out hback.out).mono ?_
  rintro e w9 ⟨rfl, hF9, hB9, hK9⟩
  have HB9 := Aside0.mk hB9
  have hs9 := Aside0.mk hK9.1
  have hIC := Aside0.mk (Kd.R_reads' hF9).2.2
  have HU9 := Aside0.mk (Kd.R_kept HU8.out hK9 (fun k h => by have := hs2.out; have := hs3.out; omega))
  have hic1 := Aside0.mk (show I.length ≤ c1 by have := hinc.out; have := HIl.out; omega)
  clear hF9 hB9 hK9
  go_wp2_with fail
  -- c
  have q := sortbuf_Sort.calls A1 c1 I T2 _ hIC.out hic1.out hsort2.out
  rw [HIl.out] at q
  refine q.mono ?_
  clear q
  rintro e w10 ⟨vc, rfl, hc, hB10⟩
  have HU10 := Aside0.mk (Kd.R_below HU9.out hB10)
  have HCc := Aside0.mk (own_in hc (below_size HB9.out))
  have HB10 := Aside0.mk (below_step HB9.out hB10)
  have hs10 := Aside0.mk hB10.size
  clear hc hB10
  go_wp2_with fail
  -- roomy again
  refine (winnowlaw10_roomy.calls k A0 c0 l L _ (Kd.C_below HR.out HB10.out) HC.out hroom.out).mono ?_
  rintro e w11 ⟨v11, rfl, hF11, hB11⟩
  have HU11 := Aside0.mk (Kd.R_below HU10.out hB11)
  have HCc11 := Aside0.mk (Kd.R_below HCc.out hB11)
  have HB11 := Aside0.mk (below_step HB10.out hB11)
  have hs11 := Aside0.mk hB11.size
  obtain ⟨A8, c8, rfl, hc8, hC8⟩ := Kd.R_reads hF11
  have HO11 := Aside0.mk (own_in (Kd.R_take hF11 hLle) (below_size HB10.out))
  rw [hLt.out] at HO11
  have hcut8 := cut_to (P := Try.prog) 27 23 .i64 Try.underlying27 hi0 A8 L.length c8 (l.length : Int) (by omega) (by have := HLl.out; omega) hc8
  rw [Int.toNat_natCast] at hcut8
  have Hc8 := Aside0.mk (show l.length ≤ c8 by have := HLl.out; omega)
  clear hF11 hB11 hC8 hc8
  go_wp2_with fail
  refine (winnowlaw10_back.calls_in k _ _ l I w _ HB11.out HO11.out hback.out).mono ?_
  rintro e w12 ⟨rfl, hF12, hB12, hK12⟩
  have HB12 := Aside0.mk hB12
  have HU12 := Aside0.mk (Kd.R_kept HU11.out hK12 (fun k h => by have := hs3.out; have := hs4.out; have := hs5.out; have := hs6.out; have := hs7.out; have := hs8.out; have := hs9.out; have := hs10.out; omega))
  have HCc12 := Aside0.mk (Kd.R_kept HCc11.out hK12 (fun k h => by have := hs10.out; omega))
  have hOC := Aside0.mk (Kd.R_reads' hF12).2.2
  have hic8 := Aside0.mk (show I.length ≤ c8 by have := Hc8.out; have := HIl.out; omega)
  clear hF12 hB12 hK12
  go_wp2_with fail
  have q := winnowref10_Sort.calls k A8 c8 I T2 _ hOC.out hic8.out hrsort2.out
  rw [HIl.out] at q
  refine q.mono ?_
  clear q
  rintro e w13 ⟨vz, rfl, hZ, hB13⟩
  have HB13 := Aside0.mk (below_step HB12.out hB13)
  have HU13 := Aside0.mk (Kd.R_below HU12.out hB13)
  obtain ⟨Ac, cc, rfl, hcc, hCC⟩ := Kd.R_reads (Kd.R_below HCc12.out hB13)
  obtain ⟨Az, cz, rfl, hcz, hCz⟩ := Kd.R_reads hZ
  clear hB13 hZ
  go_wp2_with fail
  refine (winnowlaw10_sameRecords.calls k Ac cc T2 Az cz T2 _ _ hCC hcc hCz hcz hsmT2.out).mono ?_
  rintro e w14 ⟨rfl, hD⟩
  have HU14 := Aside0.mk (Kd.R_below HU13.out hD.below)
  have HB14 := Aside0.mk (below_step HB13.out hD.below)
  clear hD hCC hcc hCz hcz
  go_wp2_with fail
  refine (winnowref10_Sort.calls k A0 c0 l T _ (Kd.C_below HR.out HB14.out) HC.out hrsort.out).mono ?_
  rintro e w15 ⟨vw, rfl, hW, hB15⟩
  have HU15 := Aside0.mk (Kd.R_below HU14.out hB15)
  have HB15 := Aside0.mk (below_step HB14.out hB15)
  obtain ⟨Aw, cw, rfl, hcw, hCw⟩ := Kd.R_reads hW
  have hCu := (Kd.R_reads' HU15.out).2.2
  clear hW hB15
  go_wp2_with fail
  refine (winnowlaw10_sameRecords.calls k Au cu T Aw cw T _ _ hCu Hcu.out hCw hcw hsmT.out).mono ?_
  rintro e w16 ⟨rfl, hD⟩
  have HB16 := Aside0.mk (below_step HB15.out hD.below)
  clear hD hCu hCw hcw
  go_wp2_with fail
  go_ret
  exact ⟨by first | rfl | (simp; done), HB16.out⟩

/-- The law as a function with a contract: true of whatever is not too long. -/
def winnowlaw10_SortSorts.f (l : List S23) : Option Bool := if l.length ≤ 3518437208780 ∧ (∀ x ∈ l, x.f1.size ≤ 140737488351232) then some true else none
theorem winnowlaw10_SortSorts.calls (A0 : Option Addr) (c0 : Nat) (l : List S23) (r : Bool) (w : World) (hr0 : Kd.C k23 w A0 l.length l) (hc0 : l.length ≤ c0) (h : winnowlaw10_SortSorts.f l = some r) :
    Calls Try.prog 4 #[.slice A0 l.length c0] w fun e w' => e = .returned (.bool r) ∧ Below w.heap.size w w' := by
  unfold winnowlaw10_SortSorts.f at h
  by_cases hl : l.length ≤ 3518437208780 ∧ (∀ x ∈ l, x.f1.size ≤ 140737488351232)
  · rw [if_pos hl] at h
    injection h with h
    subst h
    exact SortSorts_walk A0 c0 l w hr0 hc0 hl.1 hl.2
  · rw [if_neg hl] at h
    cases h
end Go.Proofs.Ytljahmnilmjlpaa.P
