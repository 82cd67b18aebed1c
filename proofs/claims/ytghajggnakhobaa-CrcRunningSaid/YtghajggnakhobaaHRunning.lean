/- The walk of the law on running sums: any acts on two of them. -/
import Derived.Test.YtghajggnakhobaaHRun
import Derived.Outline
namespace Go.Proofs.Ytghajggnakhobaa.P
open Go.RowKit Go.Proofs.YtghajggnakhobaaW.PrintWords Go.Proofs.YtghajggnakhobaaW.PrintLast Go.Proofs.YtghajggnakhobaaW.PrintMore Go.Proofs.Ytghajggnakhobaa.Hand
set_option linter.unusedVariables false
set_option linter.unusedSimpArgs false

set_option maxHeartbeats 30000000 in
set_option maxRecDepth 100000 in
theorem CrcRunning_walk (A0 : Option Addr) (c0 : Nat) (l : List S52) (w : World) (hr0 : Kd.C k52 w A0 l.length l) (hc0 : l.length ≤ c0) (hl : l.length ≤ 140737488351232) (hx : ∀ x ∈ l, x.f2.length ≤ 140737488351232) :
    Calls Try.prog 10 #[.slice A0 l.length c0] w fun e w' => e = .returned (.bool true) ∧ Below w.heap.size w w' := by
  obtain ⟨i0, hi0, _, _, _⟩ := info_parts info5
  obtain ⟨r, hby, hbn⟩ := beyond_eq l hl hx (l.length + 1) (by omega)
  have HR := Aside0.mk hr0
  have HC := Aside0.mk hc0
  have HBY := Aside0.mk hby
  have HBN := Aside0.mk hbn
  have HL := Aside0.mk hl
  have HX := Aside0.mk hx
  clear hr0 hc0 hby hbn hl hx
  go_enter Try.func10, Try.ntmps10
  go_wp2_with fail
  refine (winnowlaw1_beyond.calls _ A0 c0 l r w HR.out HC.out HBY.out).mono ?_
  rintro e w1 ⟨rfl, hD⟩
  have HB1 := Aside0.mk hD.below
  clear hD
  cases r with
  | true =>
    go_wp2_with fail
    go_ret
    exact ⟨rfl, HB1.out⟩
  | false =>
    have HN := Aside0.mk (HBN.out rfl)
    clear HBN HBY
    go_wp2_with fail
    have ba := below_alloc (Below.refl w1.heap.size w1) (.cells #[.int .u8 1] 5)
    generalize w1.alloc (.cells #[.int .u8 1] 5) = W1 at ba ⊢
    have HBa := Aside0.mk (below_step HB1.out ba)
    clear ba HB1
    refine (WriteNil _ _ _ _).mono ?_
    rintro e w2 ⟨rfl, hB⟩
    have HB2 := Aside0.mk (below_step HBa.out hB)
    clear hB HBa
    go_wp2_with fail
    refine (ResetNil _).mono ?_
    rintro e w3 ⟨rfl, hB⟩
    have HB3 := Aside0.mk (below_step HB2.out hB)
    clear hB HB2
    go_wp2_with fail
    refine (crc_New.calls 0 0 w w3 HB3.out rfl).mono ?_
    rintro e w4 ⟨a0, rfl, hI0, hB4, hB34⟩
    have HI0 := Aside0.mk hI0
    have HB4 := Aside0.mk hB4
    clear hI0 hB4 hB34 HB3
    go_wp2_with fail
    obtain ⟨W5, hW5⟩ : ∃ W, W = (w4.alloc (.cells #[.int .u32 0, .int .i64 0] 46)).alloc (.cells #[.pointer (some ⟨a0, 0, none⟩), .pointer (some ⟨w4.heap.size, 0, none⟩)] 47) := ⟨_, rfl⟩
    obtain ⟨i0, i1, hgr, sz5, la0, lw4, hB5⟩ := start1 HI0.out HB4.out hW5
    rw [← hW5]
    generalize w4.heap.size = a1 at i1 hgr sz5 la0 lw4 ⊢
    clear hW5 HI0 HB4
    refine (RefNew w W5 (fun _ => False) hB5).mono ?_
    rintro e w6 ⟨b0, rfl, hb0, hR0, hB6⟩
    have HI0 := Aside0.mk (i0.below hB6)
    have HI1 := Aside0.mk (i1.below hB6)
    have HGR := Aside0.mk ((hB6.block _ (blk_lt hgr)).trans hgr)
    have HR0 := Aside0.mk hR0
    have HB6 := Aside0.mk (below_step hB5 hB6)
    have LA0 := Aside0.mk la0
    have LW4 := Aside0.mk lw4
    have LB0 := Aside0.mk (show a1 + 1 < b0 by omega)
    clear i0 i1 hgr sz5 la0 lw4 hB5 hb0 hR0 hB6
    go_wp2_with fail
    refine (RefNew w w6 (fun _ => False) HB6.out).mono ?_
    rintro e w7 ⟨b1, rfl, hb1, hR1, hB7⟩
    obtain ⟨col, a, b, ea0, ea1, eb0, eb1, hINV⟩ := start2 (HI0.out.below hB7) (HI1.out.below hB7) ((hB7.block _ (blk_lt HGR.out)).trans HGR.out) (by have := LW4.out; omega) (HR0.out.below hB7) hR1 (below_step HB6.out hB7) LA0.out (Nat.lt_succ_self _) LB0.out (Nat.lt_of_lt_of_le HR0.out.lt hb1)
    obtain ⟨W8, hW8⟩ : ∃ W, W = w7.alloc (.cells #[pt b0, pt b1] 50) := ⟨_, rfl⟩
    rw [← hW8] at hINV
    have HW8 := Aside0.mk (show W8 = w7.alloc (.cells #[.pointer (some ⟨b0, 0, none⟩), .pointer (some ⟨b1, 0, none⟩)] 50) from hW8)
    have HINV := Aside0.mk hINV
    clear hINV hb1 hR1 hB7 HI0 HI1 HGR HR0 HB6 LA0 LW4 LB0 hW8 ea0 ea1 eb0 eb1
    go_wp2_with (rw [← HW8.out])
    clear HW8
    generalize w7.heap.size = gq at HINV ⊢
    generalize a1 + 1 = gr at HINV ⊢
    go_loopw [6] (fun v wr => ∃ (i : Nat) (col a b : Nat → Nat) (la : Nat → List Int), i ≤ l.length ∧ v = .int .i64 i ∧ Aside0 (INV w wr gr gq col a b la la) ∧ Aside0 (∀ j, j < 2 → (la j).length ≤ acts_n (l.take i))) (fun v _ => l.length - (intOf v).toNat)
    case atStart => exact ⟨0, col, a, b, fun _ => [], Nat.zero_le _, rfl, HINV, ⟨fun _ _ => Nat.zero_le _⟩⟩
    case round =>
      clear HINV
      obtain ⟨i, col, a, b, la, hi, rfl, HINV, HLA⟩ := hrel
      by_cases hlt : i < l.length
      · have hd1 : decide ((i : Int) < (l.length : Int)) = true := by simp; omega
        have p1 : (0 : Int) ≤ (i : Int) := Int.natCast_nonneg i
        have q1 : (i : Int) < (l.length : Int) := Int.ofNat_lt.2 hlt
        obtain ⟨ad, A2, c2, e, hx0, hx1, hx2, hl2, hi2⟩ := at_T52 HR.out i p1 q1
        subst e
        rw [rd52_nat l i hlt] at hx0 hx1 hx2 hl2 hi2
        rw [Int.toNat_natCast] at hx0 hx1 hx2
        have HXL := Aside0.mk (acts_take l i hlt)
        have HXX := Aside0.mk (HX.out _ (List.getElem_mem hlt))
        replace hx0 := cell_kept hx0 (Kept.of_below HINV.out.2.2.2.2 (fun _ => False)) (fun h => h)
        replace hx1 := cell_kept hx1 (Kept.of_below HINV.out.2.2.2.2 (fun _ => False)) (fun h => h)
        replace hx2 := cell_kept hx2 (Kept.of_below HINV.out.2.2.2.2 (fun _ => False)) (fun h => h)
        have HHR := Aside0.mk (show ∀ W : World, Below w.heap.size w W → Kd.C (Kd.int .u8) W A2 l[i].f2.length l[i].f2 from fun W hb => Kd.C_below hi2 hb)
        have HHL := Aside0.mk hl2
        replace p1 := eq_true p1
        replace q1 := eq_true q1
        clear hi2 hl2
        generalize l[i] = x at hx0 hx1 hx2 HXL HXX HHR HHL
        obtain ⟨op, who, B⟩ := x
        dsimp only at hx0 hx1 hx2 HXL HXX HHR HHL
        obtain ⟨bb, hbb⟩ : ∃ bb, (who.tmod 2 != 0) = bb := ⟨_, rfl⟩
        cases bb with
        | false =>
          go_wp2_with fail
          have ba := below_alloc (Below.refl wr.heap.size wr) (.cells #[.int .i64 op, .int .i64 who, .slice A2 B.length c2] 52)
          have hgx := heap_alloc_new wr (.cells #[.int .i64 op, .int .i64 who, .slice A2 B.length c2] 52)
          have hsz : (wr.alloc (.cells #[.int .i64 op, .int .i64 who, .slice A2 B.length c2] 52)).heap.size = wr.heap.size + 1 := by simp
          generalize wr.alloc (.cells #[.int .i64 op, .int .i64 who, .slice A2 B.length c2] 52) = W9 at ba hgx hsz ⊢
          have Hba := Aside0.mk ba
          have Hgx := Aside0.mk hgx
          have Hsz := Aside0.mk hsz
          clear ba hgx hsz hx0 hx1 hx2 hbb
          refine (winnowlaw1_roomy.calls (B.length + 65) A2 c2 B (room B) W9 (Kd.C_below (HHR.out wr HINV.out.2.2.2.2) Hba.out) HHL.out (roomy_eq B HXX.out _ (by omega))).mono ?_
          rintro e w10 ⟨vf, rfl, hF, hB⟩
          obtain ⟨col, HIE⟩ := begin_ HINV.out Hgx.out Hsz.out Hba.out hF hB
          have HI := Aside0.mk HIE.1
          have HE := Aside0.mk HIE.2
          clear HIE HINV Hgx Hsz Hba
          generalize wr.heap.size = gx at HE ⊢
          obtain ⟨Af, cf, rfl, hcf, hCf⟩ := Kd.R_reads hF
          have Hcf := Aside0.mk hcf
          have hcut := cut_to (P := Try.prog) 25 5 .i64 Try.underlying25 hi0 Af (room B).length cf (B.length : Int) (by omega) (by rw [room_length]; omega) hcf
          rw [Int.toNat_natCast] at hcut
          have HLB := Aside0.mk (show (room B).length = B.length + 64 from room_length B)
          have HTK := Aside0.mk (show (room B).take B.length = B from List.take_left)
          have HLM := Aside0.mk (show B.length ≤ 2147483647 ∧ acts_n (l.take i) + (B.length + 1) ≤ 2147483647 by have := acts_take_le l (i + 1); have := HXL.out; have := HN.out; omega)
          have HLA2 := Aside0.mk (show ∀ j, j < 2 → (la j).length ≤ 2147483647 from fun j hj => by have := HLA.out j hj; have := HLM.out.2; omega)
          obtain ⟨L, hL⟩ : ∃ L, L = room B := ⟨_, rfl⟩
          rw [← hL] at HE hcut HLB HTK Hcf
          have HRM := Aside0.mk (show winnowlaw1_roomy.f (B.length + 65) B = some L by rw [hL]; exact roomy_eq B HXX.out _ (by omega))
          rw [← hL]
          clear hF hB hcf hCf hL
          by_cases ho0 : op = 0
          · subst ho0
            have HI1 := Aside0.mk HI.out.drew
            have HE1 := Aside0.mk HE.out.drew
            have hin := Kd.R_take HE1.out.2 (show B.length ≤ L.length by have := HLB.out; omega)
            rw [HTK.out] at hin
            have hwr : crc_Running_Write.f (extI 0 (la 0)) ((la 0).length : Int) B = some (extI 0 (la 0 ++ B), ((la 0 ++ B).length : Int)) := by
              unfold crc_Running_Write.f
              rw [Ext_eq, Option.bind_some, extI_append]
              have h1 := HLA2.out 0 (by omega)
              have h2 := HLM.out.1
              have : wrap64 (((la 0).length : Int) + (B.length : Int)) = ((la 0 ++ B).length : Int) := by rw [List.length_append]; unfold wrap64; omega
              rw [this]
            have hne : ∀ ad, Af = some ad → 0 < B.length → ad.block ≠ a 0 := fun ad e _ he => by
              subst e
              have h1 := (HE1.out.2.1 ad.block rfl).1
              have h2 := (HI1.out.2.2.1 0 (by omega)).2
              rw [he] at h1
              omega
            have GK := Aside0.mk ((crc_Running_Write.calls (a 0) _ _ Af cf B _ _ w w10.drew (HI1.out.2.2.1 0 (by omega)).1 HI1.out.2.2.2.2 (Kd.R_reads' hin).2.2 (by have := HLB.out; have := Hcf.out; omega) hne hwr).mono (R' := fun e w' => e = .returned (.tuple #[]) ∧ INV w w' gr gq col a b (upd la 0 (la 0 ++ B)) la ∧ EX w w' col gx #[.int .i64 0, .int .i64 who, .slice A2 B.length c2] (.slice Af L.length cf) L)
              (fun e w' h => ⟨h.1, goOnA HI1.out HE1.out 0 (by omega) _ h.2.1 h.2.2.2 h.2.2.1⟩))
            clear hin hwr hne
            obtain ⟨⟨f1, f2, f3, f4⟩, ⟨f5, f6, f7, f8⟩, f9, f10⟩ := facts HI.out HE.out
            go_wp2_with fail
            go_region_held3 (fun w' => w'.cell? ⟨gr, 0, none⟩ = some (.pointer (some ⟨a 0, 0, none⟩)) ∧ w'.cell? ⟨gx, 2, none⟩ = some (.slice A2 B.length c2)) (go_keep) ((go_at_call 30; refine GK.out.mono ?_; rintro e w11 ⟨rfl, hI, hE⟩; have HI11 := Aside0.mk hI; have HE11 := Aside0.mk hE; obtain ⟨⟨k1, k2, k3, k4⟩, _, k5, k6⟩ := facts hI hE; clear hI hE))
            clear f1 f2 f3 f4 f5 f6 f7 f8 f9 f10
            clear k1 k2 k3 k4 k5 k6
            clear HI HE HI1 HE1 GK
            have HI := HI11
            have HE := HE11
            clear HI11 HE11
            have HI1 := Aside0.mk HI.out.drew
            have HE1 := Aside0.mk HE.out.drew
            have hpre := goOnB_pre HI1.out 0 (by omega)
            have GK := Aside0.mk ((RefWrite w w11.drew (b 0) _ (la 0) B A2 c2 HI1.out.2.2.2.2 hpre.1 hpre.2.1 hpre.2.2 (by have := HLA2.out 0 (by omega); have := HLM.out.1; omega) (HHR.out w11.drew HI1.out.2.2.2.2) HHL.out).mono (R' := fun e w' => e = .returned (.tuple #[]) ∧ ∃ col1, INV w w' gr gq col1 a b (upd la 0 (la 0 ++ B)) (upd la 0 (la 0 ++ B)) ∧ EX w w' col1 gx #[.int .i64 0, .int .i64 who, .slice A2 B.length c2] (.slice Af L.length cf) L)
              (fun e w' h => ⟨h.1, goOnB HI1.out HE1.out 0 (by omega) _ h.2.1 h.2.2.1 h.2.2.2⟩))
            clear hpre
            obtain ⟨⟨f1, f2, f3, f4⟩, ⟨f5, f6, f7, f8⟩, f9, f10⟩ := facts HI.out HE.out
            go_wp2_with fail
            go_region_held3 (fun w' => w'.cell? ⟨gq, 0, none⟩ = some (.pointer (some ⟨b 0, 0, none⟩)) ∧ w'.cell? ⟨gx, 2, none⟩ = some (.slice A2 B.length c2)) (go_keep) ((go_at_call 34; refine GK.out.mono ?_; rintro e w12 ⟨rfl, col1, hI, hE⟩; have HI11 := Aside0.mk hI; have HE11 := Aside0.mk hE; obtain ⟨⟨k1, k2, k3, k4⟩, _, k5, k6⟩ := facts hI hE; clear hI hE))
            clear f1 f2 f3 f4 f5 f6 f7 f8 f9 f10
            clear k1 k2 k3 k4 k5 k6
            clear HI HE HI1 HE1 GK
            have HI := HI11
            have HE := HE11
            clear HI11 HE11
            obtain ⟨⟨f1, f2, f3, f4⟩, ⟨f5, f6, f7, f8⟩, f9, f10⟩ := facts HI.out HE.out
            go_wp2_with fail
            clear f1 f2 f3 f4 f5 f6 f7 f8 f9 f10

            refine (winnowlaw1_roomy.calls (B.length + 65) A2 c2 B L _ (HHR.out _ HI.out.2.2.2.2) HHL.out HRM.out).mono ?_
            rintro e w20 ⟨vr, rfl, hF, hB⟩
            obtain ⟨Ar, cr, rfl, hcr, hCr⟩ := Kd.R_reads hF
            have HI20 := Aside0.mk (HI.out.below hB)
            have HE20 := Aside0.mk (HE.out.below hB)
            clear HI HE hF hB
            have HI := HI20
            have HE := HE20
            clear HI20 HE20
            obtain ⟨⟨f1, f2, f3, f4⟩, ⟨f5, f6, f7, f8⟩, f9, f10⟩ := facts HI.out HE.out
            go_wp2_with fail
            clear f1 f2 f3 f4 f5 f6 f7 f8 f9 f10
            refine (winnowlaw1_same.calls (L.length + 1) Af cf L Ar cr L _ _ (Kd.R_reads' HE.out.2).2.2 Hcf.out hCr hcr (same_eq _ L L (by have := HLB.out; have := HXX.out; omega) (by omega))).mono ?_
            rintro e w21 ⟨rfl, hD⟩
            have HI21 := Aside0.mk (HI.out.below hD.below)
            have HE21 := Aside0.mk (HE.out.below hD.below)
            clear HI HE hD hcr hCr
            have HI := HI21
            have HE := HE21
            clear HI21 HE21
            obtain ⟨⟨f1, f2, f3, f4⟩, ⟨f5, f6, f7, f8⟩, f9, f10⟩ := facts HI.out HE.out
            have hdL : decide (L = L) = true := decide_eq_true rfl
            go_wp2_with fail
            clear f1 f2 f3 f4 f5 f6 f7 f8 f9 f10
            refine (winnowlaw1_next.calls_in (L.length + 1) _ _ L (inc L) w _ HI.out.2.2.2.2 HE.out.2 (next_eq L (by have := HLB.out; have := HXX.out; omega) _ (by omega))).mono ?_
            rintro e w22 ⟨rfl, _, hB, hK⟩
            have HIE := over HI.out HE.out hK hB
            clear HI HE hB hK
            have HI := Aside0.mk HIE.1
            have HGX := Aside0.mk HIE.2
            have f9 : w22.cell? ⟨gx, 0, none⟩ = some (.int .i64 0) := (blk_cell HGX.out 0).trans rfl
            clear HIE

            go_wp2_with fail
            go_region
            go_wp2_with fail
            clear f9

            have hwi : wrap64 ((i : Int) + 1) = ((i + 1 : Nat) : Int) := by (have := HL.out; unfold wrap64; omega)
            go_roundw
            case rel => exact ⟨i + 1, _, _, _, _, by omega, by rw [hwi], ⟨by first | exact HI.out | exact HI.out.drew | exact HI.out.drew.drew⟩, ⟨upd_len HLA.out 0 _ (by rw [List.length_append]; have := HLA.out 0 (by omega); have := HXL.out; omega) (by have := HXL.out; omega)⟩⟩
            case measure => rw [hwi]; simp [intOf]; omega
          by_cases ho1 : op = 1
          · subst ho1
            obtain ⟨⟨f1, f2, f3, f4⟩, ⟨f5, f6, f7, f8⟩, f9, f10⟩ := facts HI.out HE.out
            go_wp2_with fail
            clear f1 f2 f3 f4 f5 f6 f7 f8 f9 f10
            refine (crc_Running_Reset.calls (a 0) _ _ 0 0 w w10 (HI.out.2.2.1 0 (by omega)).1 HI.out.2.2.2.2 rfl).mono ?_
            rintro e w11 ⟨rfl, hI, hB, hK⟩
            have HIE := goOnA HI.out HE.out 0 (by omega) [] (by rw [ext0]; exact hI) hK hB
            clear HI HE hI hB hK
            have HI := Aside0.mk HIE.1
            have HE := Aside0.mk HIE.2
            clear HIE
            obtain ⟨⟨f1, f2, f3, f4⟩, ⟨f5, f6, f7, f8⟩, f9, f10⟩ := facts HI.out HE.out
            go_wp2_with fail
            clear f1 f2 f3 f4 f5 f6 f7 f8 f9 f10
            have hpre := goOnB_pre HI.out 0 (by omega)
            refine (RefReset w w11 (b 0) _ (la 0) HI.out.2.2.2.2 hpre.1).mono ?_
            clear hpre
            rintro e w12 ⟨rfl, hR, hK, hB⟩
            obtain ⟨col1, HIE⟩ := goOnB HI.out HE.out 0 (by omega) _ hR (hK.mono (fun _ h => .inl h)) hB
            clear HI HE hR hK hB
            have HI := Aside0.mk HIE.1
            have HE := Aside0.mk HIE.2
            clear HIE
            obtain ⟨⟨f1, f2, f3, f4⟩, ⟨f5, f6, f7, f8⟩, f9, f10⟩ := facts HI.out HE.out
            go_wp2_with fail
            clear f1 f2 f3 f4 f5 f6 f7 f8 f9 f10

            refine (winnowlaw1_roomy.calls (B.length + 65) A2 c2 B L _ (HHR.out _ HI.out.2.2.2.2) HHL.out HRM.out).mono ?_
            rintro e w20 ⟨vr, rfl, hF, hB⟩
            obtain ⟨Ar, cr, rfl, hcr, hCr⟩ := Kd.R_reads hF
            have HI20 := Aside0.mk (HI.out.below hB)
            have HE20 := Aside0.mk (HE.out.below hB)
            clear HI HE hF hB
            have HI := HI20
            have HE := HE20
            clear HI20 HE20
            obtain ⟨⟨f1, f2, f3, f4⟩, ⟨f5, f6, f7, f8⟩, f9, f10⟩ := facts HI.out HE.out
            go_wp2_with fail
            clear f1 f2 f3 f4 f5 f6 f7 f8 f9 f10
            refine (winnowlaw1_same.calls (L.length + 1) Af cf L Ar cr L _ _ (Kd.R_reads' HE.out.2).2.2 Hcf.out hCr hcr (same_eq _ L L (by have := HLB.out; have := HXX.out; omega) (by omega))).mono ?_
            rintro e w21 ⟨rfl, hD⟩
            have HI21 := Aside0.mk (HI.out.below hD.below)
            have HE21 := Aside0.mk (HE.out.below hD.below)
            clear HI HE hD hcr hCr
            have HI := HI21
            have HE := HE21
            clear HI21 HE21
            obtain ⟨⟨f1, f2, f3, f4⟩, ⟨f5, f6, f7, f8⟩, f9, f10⟩ := facts HI.out HE.out
            have hdL : decide (L = L) = true := decide_eq_true rfl
            go_wp2_with fail
            clear f1 f2 f3 f4 f5 f6 f7 f8 f9 f10
            refine (winnowlaw1_next.calls_in (L.length + 1) _ _ L (inc L) w _ HI.out.2.2.2.2 HE.out.2 (next_eq L (by have := HLB.out; have := HXX.out; omega) _ (by omega))).mono ?_
            rintro e w22 ⟨rfl, _, hB, hK⟩
            have HIE := over HI.out HE.out hK hB
            clear HI HE hB hK
            have HI := Aside0.mk HIE.1
            have HGX := Aside0.mk HIE.2
            have f9 : w22.cell? ⟨gx, 0, none⟩ = some (.int .i64 1) := (blk_cell HGX.out 0).trans rfl
            clear HIE

            go_wp2_with fail
            go_region
            go_wp2_with fail
            clear f9

            have hwi : wrap64 ((i : Int) + 1) = ((i + 1 : Nat) : Int) := by (have := HL.out; unfold wrap64; omega)
            go_roundw
            case rel => exact ⟨i + 1, _, _, _, _, by omega, by rw [hwi], ⟨by first | exact HI.out | exact HI.out.drew | exact HI.out.drew.drew⟩, ⟨upd_len HLA.out 0 _ (Nat.zero_le _) (by have := HXL.out; omega)⟩⟩
            case measure => rw [hwi]; simp [intOf]; omega
          by_cases ho2 : op = 2
          · subst ho2
            obtain ⟨⟨f1, f2, f3, f4⟩, ⟨f5, f6, f7, f8⟩, f9, f10⟩ := facts HI.out HE.out
            go_wp2_with fail
            clear f1 f2 f3 f4 f5 f6 f7 f8 f9 f10
            refine (crc_New.calls 0 0 w10 w10 (Below.refl _ _) rfl).mono ?_
            rintro e w11 ⟨g, rfl, hI, _, hB⟩
            obtain ⟨col1, a1, HIE⟩ := renewA HI.out HE.out 0 (by omega) g hI hB
            obtain ⟨W11, hW11⟩ : ∃ W, W = w11.setCell ⟨gr, 0, none⟩ (pt g) := ⟨_, rfl⟩
            have H11 := Aside0.mk (show W11 = w11.setCell ⟨gr, 0, none⟩ (.pointer (some ⟨g, 0, none⟩)) from hW11)
            have hgr := (hB.block _ (blk_lt HI.out.1.1)).trans HI.out.1.1
            have g1 := (two_get hgr 0 (by omega)).1
            have g2 := (two_get hgr 0 (by omega)).2
            rw [← hW11] at HIE
            clear HI HE hI hB hW11 hgr
            have HI := Aside0.mk HIE.1
            have HE := Aside0.mk HIE.2
            clear HIE
            obtain ⟨⟨f1, f2, f3, f4⟩, ⟨f5, f6, f7, f8⟩, f9, f10⟩ := facts HI.out HE.out
            go_wp2_with (rw [← H11.out])
            clear g1 g2
            clear f1 f2 f3 f4 f5 f6 f7 f8 f9 f10
            refine (RefNew w W11 (fun _ => False) HI.out.2.2.2.2).mono ?_
            rintro e w12 ⟨g', rfl, hg, hR, hB⟩
            obtain ⟨col2, b1, HIE⟩ := renewB HI.out HE.out 0 (by omega) g' hR hg hB
            obtain ⟨W12, hW12⟩ : ∃ W, W = w12.setCell ⟨gq, 0, none⟩ (pt g') := ⟨_, rfl⟩
            have H12 := Aside0.mk (show W12 = w12.setCell ⟨gq, 0, none⟩ (.pointer (some ⟨g', 0, none⟩)) from hW12)
            have hgq := (hB.block _ (blk_lt HI.out.2.1.1)).trans HI.out.2.1.1
            have g1 := (two_get hgq 0 (by omega)).1
            have g2 := (two_get hgq 0 (by omega)).2
            rw [← hW12] at HIE
            clear HI HE hg hR hB hW12 hgq
            have HI := Aside0.mk HIE.1
            have HE := Aside0.mk HIE.2
            clear HIE
            obtain ⟨⟨f1, f2, f3, f4⟩, ⟨f5, f6, f7, f8⟩, f9, f10⟩ := facts HI.out HE.out
            go_wp2_with (rw [← H12.out])
            clear g1 g2
            clear f1 f2 f3 f4 f5 f6 f7 f8 f9 f10

            refine (winnowlaw1_roomy.calls (B.length + 65) A2 c2 B L _ (HHR.out _ HI.out.2.2.2.2) HHL.out HRM.out).mono ?_
            rintro e w20 ⟨vr, rfl, hF, hB⟩
            obtain ⟨Ar, cr, rfl, hcr, hCr⟩ := Kd.R_reads hF
            have HI20 := Aside0.mk (HI.out.below hB)
            have HE20 := Aside0.mk (HE.out.below hB)
            clear HI HE hF hB
            have HI := HI20
            have HE := HE20
            clear HI20 HE20
            obtain ⟨⟨f1, f2, f3, f4⟩, ⟨f5, f6, f7, f8⟩, f9, f10⟩ := facts HI.out HE.out
            go_wp2_with fail
            clear f1 f2 f3 f4 f5 f6 f7 f8 f9 f10
            refine (winnowlaw1_same.calls (L.length + 1) Af cf L Ar cr L _ _ (Kd.R_reads' HE.out.2).2.2 Hcf.out hCr hcr (same_eq _ L L (by have := HLB.out; have := HXX.out; omega) (by omega))).mono ?_
            rintro e w21 ⟨rfl, hD⟩
            have HI21 := Aside0.mk (HI.out.below hD.below)
            have HE21 := Aside0.mk (HE.out.below hD.below)
            clear HI HE hD hcr hCr
            have HI := HI21
            have HE := HE21
            clear HI21 HE21
            obtain ⟨⟨f1, f2, f3, f4⟩, ⟨f5, f6, f7, f8⟩, f9, f10⟩ := facts HI.out HE.out
            have hdL : decide (L = L) = true := decide_eq_true rfl
            go_wp2_with fail
            clear f1 f2 f3 f4 f5 f6 f7 f8 f9 f10
            refine (winnowlaw1_next.calls_in (L.length + 1) _ _ L (inc L) w _ HI.out.2.2.2.2 HE.out.2 (next_eq L (by have := HLB.out; have := HXX.out; omega) _ (by omega))).mono ?_
            rintro e w22 ⟨rfl, _, hB, hK⟩
            have HIE := over HI.out HE.out hK hB
            clear HI HE hB hK
            have HI := Aside0.mk HIE.1
            have HGX := Aside0.mk HIE.2
            have f9 : w22.cell? ⟨gx, 0, none⟩ = some (.int .i64 2) := (blk_cell HGX.out 0).trans rfl
            clear HIE

            go_wp2_with fail
            go_region
            go_wp2_with fail
            clear f9

            have hwi : wrap64 ((i : Int) + 1) = ((i + 1 : Nat) : Int) := by (have := HL.out; unfold wrap64; omega)
            go_roundw
            case rel => exact ⟨i + 1, _, _, _, _, by omega, by rw [hwi], ⟨by first | exact HI.out | exact HI.out.drew | exact HI.out.drew.drew⟩, ⟨upd_len HLA.out 0 _ (Nat.zero_le _) (by have := HXL.out; omega)⟩⟩
            case measure => rw [hwi]; simp [intOf]; omega
          have ho3 : (op == 0) = false := by simpa using ho0
          have ho4 : (op == 1) = false := by simpa using ho1
          have ho5 : (op == 2) = false := by simpa using ho2
          clear ho0 ho1 ho2

          obtain ⟨⟨f1, f2, f3, f4⟩, ⟨f5, f6, f7, f8⟩, f9, f10⟩ := facts HI.out HE.out
          go_wp2_with fail
          clear f1 f2 f3 f4 f5 f6 f7 f8 f9 f10

          refine (winnowlaw1_roomy.calls (B.length + 65) A2 c2 B L _ (HHR.out _ HI.out.2.2.2.2) HHL.out HRM.out).mono ?_
          rintro e w20 ⟨vr, rfl, hF, hB⟩
          obtain ⟨Ar, cr, rfl, hcr, hCr⟩ := Kd.R_reads hF
          have HI20 := Aside0.mk (HI.out.below hB)
          have HE20 := Aside0.mk (HE.out.below hB)
          clear HI HE hF hB
          have HI := HI20
          have HE := HE20
          clear HI20 HE20
          obtain ⟨⟨f1, f2, f3, f4⟩, ⟨f5, f6, f7, f8⟩, f9, f10⟩ := facts HI.out HE.out
          go_wp2_with fail
          clear f1 f2 f3 f4 f5 f6 f7 f8 f9 f10
          refine (winnowlaw1_same.calls (L.length + 1) Af cf L Ar cr L _ _ (Kd.R_reads' HE.out.2).2.2 Hcf.out hCr hcr (same_eq _ L L (by have := HLB.out; have := HXX.out; omega) (by omega))).mono ?_
          rintro e w21 ⟨rfl, hD⟩
          have HI21 := Aside0.mk (HI.out.below hD.below)
          have HE21 := Aside0.mk (HE.out.below hD.below)
          clear HI HE hD hcr hCr
          have HI := HI21
          have HE := HE21
          clear HI21 HE21
          obtain ⟨⟨f1, f2, f3, f4⟩, ⟨f5, f6, f7, f8⟩, f9, f10⟩ := facts HI.out HE.out
          have hdL : decide (L = L) = true := decide_eq_true rfl
          go_wp2_with fail
          clear f1 f2 f3 f4 f5 f6 f7 f8 f9 f10
          refine (winnowlaw1_next.calls_in (L.length + 1) _ _ L (inc L) w _ HI.out.2.2.2.2 HE.out.2 (next_eq L (by have := HLB.out; have := HXX.out; omega) _ (by omega))).mono ?_
          rintro e w22 ⟨rfl, _, hB, hK⟩
          have HIE := over HI.out HE.out hK hB
          clear HI HE hB hK
          have HI := Aside0.mk HIE.1
          have HGX := Aside0.mk HIE.2
          have f9 : w22.cell? ⟨gx, 0, none⟩ = some (.int .i64 op) := (blk_cell HGX.out 0).trans rfl
          clear HIE
          by_cases hg : 2 < op
          ·
            have hg2 : decide (2 < op) = true := decide_eq_true hg
            clear hg
            have lt0 : 0 < 2 := by omega
            have lt1 : 1 < 2 := by omega
            have hl0 := HLA2.out 0 lt0
            have hl1 := HLA2.out 1 lt1
            have hM2 := JNV.drew ⟨HI.out, HGX.out⟩
            obtain ⟨⟨f1, f2, f3, f4⟩, f5⟩ := hM2.cells
            go_wp2_with fail
            go_region_held3 (fun w' => JNV w gr gq gx #[.int .i64 op, .int .i64 who, .slice A2 B.length c2] col a b la w' ∧ (w'.cell? ⟨gr, 0, none⟩ = some (.pointer (some ⟨a 0, 0, none⟩)) ∧ w'.cell? ⟨gr, 1, none⟩ = some (.pointer (some ⟨a 1, 0, none⟩)) ∧ w'.cell? ⟨gq, 0, none⟩ = some (.pointer (some ⟨b 0, 0, none⟩)) ∧ w'.cell? ⟨gq, 1, none⟩ = some (.pointer (some ⟨b 1, 0, none⟩))) ∧ w'.cell? ⟨gx, 0, none⟩ = some (.int .i64 op)) (first | exact ⟨hM2, hM2.cells⟩ | go_keep) ((first | (go_at_call 36; with_reducible refine ((hM2.inv).sum 0 lt0).mono ?_; rintro e w2 ⟨rfl, hB2⟩; replace hM2 := JNV.below hM2 hB2) | (go_at_call 36; with_reducible refine ((hM2.inv).sum 1 lt1).mono ?_; rintro e w2 ⟨rfl, hB2⟩; replace hM2 := JNV.below hM2 hB2) | (go_at_call 37; with_reducible refine ((hM2.inv).rsum 0 lt0 hl0).mono ?_; rintro e w2 ⟨rfl, hB2⟩; replace hM2 := JNV.below hM2 hB2) | (go_at_call 37; with_reducible refine ((hM2.inv).rsum 1 lt1 hl1).mono ?_; rintro e w2 ⟨rfl, hB2⟩; replace hM2 := JNV.below hM2 hB2) | (go_at_call 38; with_reducible refine ((hM2.inv).len 0 lt0).mono ?_; rintro e w2 ⟨rfl, hB2⟩; replace hM2 := JNV.below hM2 hB2) | (go_at_call 38; with_reducible refine ((hM2.inv).len 1 lt1).mono ?_; rintro e w2 ⟨rfl, hB2⟩; replace hM2 := JNV.below hM2 hB2) | (go_at_call 39; with_reducible refine ((hM2.inv).rlen 0 lt0 hl0).mono ?_; rintro e w2 ⟨rfl, hB2⟩; replace hM2 := JNV.below hM2 hB2) | (go_at_call 39; with_reducible refine ((hM2.inv).rlen 1 lt1 hl1).mono ?_; rintro e w2 ⟨rfl, hB2⟩; replace hM2 := JNV.below hM2 hB2)))
            clear HI
            have HI := Aside0.mk hM2.1
            clear f1 f2 f3 f4 f5 f9 lt0 lt1 hl0 hl1
            go_wp2_with fail

            have hwi : wrap64 ((i : Int) + 1) = ((i + 1 : Nat) : Int) := by (have := HL.out; unfold wrap64; omega)
            go_roundw
            case rel => exact ⟨i + 1, _, _, _, _, by omega, by rw [hwi], ⟨by first | exact HI.out | exact HI.out.drew | exact HI.out.drew.drew⟩, ⟨fun j hj => by have := HLA.out j hj; have := HXL.out; omega⟩⟩
            case measure => rw [hwi]; simp [intOf]; omega
          ·
            have hg2 : decide (2 < op) = false := decide_eq_false hg
            clear hg
            go_wp2_with fail
            go_region
            go_wp2_with fail
            clear f9

            have hwi : wrap64 ((i : Int) + 1) = ((i + 1 : Nat) : Int) := by (have := HL.out; unfold wrap64; omega)
            go_roundw
            case rel => exact ⟨i + 1, _, _, _, _, by omega, by rw [hwi], ⟨by first | exact HI.out | exact HI.out.drew | exact HI.out.drew.drew⟩, ⟨fun j hj => by have := HLA.out j hj; have := HXL.out; omega⟩⟩
            case measure => rw [hwi]; simp [intOf]; omega
        | true =>
          go_wp2_with fail
          have ba := below_alloc (Below.refl wr.heap.size wr) (.cells #[.int .i64 op, .int .i64 who, .slice A2 B.length c2] 52)
          have hgx := heap_alloc_new wr (.cells #[.int .i64 op, .int .i64 who, .slice A2 B.length c2] 52)
          have hsz : (wr.alloc (.cells #[.int .i64 op, .int .i64 who, .slice A2 B.length c2] 52)).heap.size = wr.heap.size + 1 := by simp
          generalize wr.alloc (.cells #[.int .i64 op, .int .i64 who, .slice A2 B.length c2] 52) = W9 at ba hgx hsz ⊢
          have Hba := Aside0.mk ba
          have Hgx := Aside0.mk hgx
          have Hsz := Aside0.mk hsz
          clear ba hgx hsz hx0 hx1 hx2 hbb
          refine (winnowlaw1_roomy.calls (B.length + 65) A2 c2 B (room B) W9 (Kd.C_below (HHR.out wr HINV.out.2.2.2.2) Hba.out) HHL.out (roomy_eq B HXX.out _ (by omega))).mono ?_
          rintro e w10 ⟨vf, rfl, hF, hB⟩
          obtain ⟨col, HIE⟩ := begin_ HINV.out Hgx.out Hsz.out Hba.out hF hB
          have HI := Aside0.mk HIE.1
          have HE := Aside0.mk HIE.2
          clear HIE HINV Hgx Hsz Hba
          generalize wr.heap.size = gx at HE ⊢
          obtain ⟨Af, cf, rfl, hcf, hCf⟩ := Kd.R_reads hF
          have Hcf := Aside0.mk hcf
          have hcut := cut_to (P := Try.prog) 25 5 .i64 Try.underlying25 hi0 Af (room B).length cf (B.length : Int) (by omega) (by rw [room_length]; omega) hcf
          rw [Int.toNat_natCast] at hcut
          have HLB := Aside0.mk (show (room B).length = B.length + 64 from room_length B)
          have HTK := Aside0.mk (show (room B).take B.length = B from List.take_left)
          have HLM := Aside0.mk (show B.length ≤ 2147483647 ∧ acts_n (l.take i) + (B.length + 1) ≤ 2147483647 by have := acts_take_le l (i + 1); have := HXL.out; have := HN.out; omega)
          have HLA2 := Aside0.mk (show ∀ j, j < 2 → (la j).length ≤ 2147483647 from fun j hj => by have := HLA.out j hj; have := HLM.out.2; omega)
          obtain ⟨L, hL⟩ : ∃ L, L = room B := ⟨_, rfl⟩
          rw [← hL] at HE hcut HLB HTK Hcf
          have HRM := Aside0.mk (show winnowlaw1_roomy.f (B.length + 65) B = some L by rw [hL]; exact roomy_eq B HXX.out _ (by omega))
          rw [← hL]
          clear hF hB hcf hCf hL
          by_cases ho0 : op = 0
          · subst ho0
            have HI1 := Aside0.mk HI.out.drew
            have HE1 := Aside0.mk HE.out.drew
            have hin := Kd.R_take HE1.out.2 (show B.length ≤ L.length by have := HLB.out; omega)
            rw [HTK.out] at hin
            have hwr : crc_Running_Write.f (extI 0 (la 1)) ((la 1).length : Int) B = some (extI 0 (la 1 ++ B), ((la 1 ++ B).length : Int)) := by
              unfold crc_Running_Write.f
              rw [Ext_eq, Option.bind_some, extI_append]
              have h1 := HLA2.out 1 (by omega)
              have h2 := HLM.out.1
              have : wrap64 (((la 1).length : Int) + (B.length : Int)) = ((la 1 ++ B).length : Int) := by rw [List.length_append]; unfold wrap64; omega
              rw [this]
            have hne : ∀ ad, Af = some ad → 0 < B.length → ad.block ≠ a 1 := fun ad e _ he => by
              subst e
              have h1 := (HE1.out.2.1 ad.block rfl).1
              have h2 := (HI1.out.2.2.1 1 (by omega)).2
              rw [he] at h1
              omega
            have GK := Aside0.mk ((crc_Running_Write.calls (a 1) _ _ Af cf B _ _ w w10.drew (HI1.out.2.2.1 1 (by omega)).1 HI1.out.2.2.2.2 (Kd.R_reads' hin).2.2 (by have := HLB.out; have := Hcf.out; omega) hne hwr).mono (R' := fun e w' => e = .returned (.tuple #[]) ∧ INV w w' gr gq col a b (upd la 1 (la 1 ++ B)) la ∧ EX w w' col gx #[.int .i64 0, .int .i64 who, .slice A2 B.length c2] (.slice Af L.length cf) L)
              (fun e w' h => ⟨h.1, goOnA HI1.out HE1.out 1 (by omega) _ h.2.1 h.2.2.2 h.2.2.1⟩))
            clear hin hwr hne
            obtain ⟨⟨f1, f2, f3, f4⟩, ⟨f5, f6, f7, f8⟩, f9, f10⟩ := facts HI.out HE.out
            go_wp2_with fail
            go_region_held3 (fun w' => w'.cell? ⟨gr, 1, none⟩ = some (.pointer (some ⟨a 1, 0, none⟩)) ∧ w'.cell? ⟨gx, 2, none⟩ = some (.slice A2 B.length c2)) (go_keep) ((go_at_call 30; refine GK.out.mono ?_; rintro e w11 ⟨rfl, hI, hE⟩; have HI11 := Aside0.mk hI; have HE11 := Aside0.mk hE; obtain ⟨⟨k1, k2, k3, k4⟩, _, k5, k6⟩ := facts hI hE; clear hI hE))
            clear f1 f2 f3 f4 f5 f6 f7 f8 f9 f10
            clear k1 k2 k3 k4 k5 k6
            clear HI HE HI1 HE1 GK
            have HI := HI11
            have HE := HE11
            clear HI11 HE11
            have HI1 := Aside0.mk HI.out.drew
            have HE1 := Aside0.mk HE.out.drew
            have hpre := goOnB_pre HI1.out 1 (by omega)
            have GK := Aside0.mk ((RefWrite w w11.drew (b 1) _ (la 1) B A2 c2 HI1.out.2.2.2.2 hpre.1 hpre.2.1 hpre.2.2 (by have := HLA2.out 1 (by omega); have := HLM.out.1; omega) (HHR.out w11.drew HI1.out.2.2.2.2) HHL.out).mono (R' := fun e w' => e = .returned (.tuple #[]) ∧ ∃ col1, INV w w' gr gq col1 a b (upd la 1 (la 1 ++ B)) (upd la 1 (la 1 ++ B)) ∧ EX w w' col1 gx #[.int .i64 0, .int .i64 who, .slice A2 B.length c2] (.slice Af L.length cf) L)
              (fun e w' h => ⟨h.1, goOnB HI1.out HE1.out 1 (by omega) _ h.2.1 h.2.2.1 h.2.2.2⟩))
            clear hpre
            obtain ⟨⟨f1, f2, f3, f4⟩, ⟨f5, f6, f7, f8⟩, f9, f10⟩ := facts HI.out HE.out
            go_wp2_with fail
            go_region_held3 (fun w' => w'.cell? ⟨gq, 1, none⟩ = some (.pointer (some ⟨b 1, 0, none⟩)) ∧ w'.cell? ⟨gx, 2, none⟩ = some (.slice A2 B.length c2)) (go_keep) ((go_at_call 34; refine GK.out.mono ?_; rintro e w12 ⟨rfl, col1, hI, hE⟩; have HI11 := Aside0.mk hI; have HE11 := Aside0.mk hE; obtain ⟨⟨k1, k2, k3, k4⟩, _, k5, k6⟩ := facts hI hE; clear hI hE))
            clear f1 f2 f3 f4 f5 f6 f7 f8 f9 f10
            clear k1 k2 k3 k4 k5 k6
            clear HI HE HI1 HE1 GK
            have HI := HI11
            have HE := HE11
            clear HI11 HE11
            obtain ⟨⟨f1, f2, f3, f4⟩, ⟨f5, f6, f7, f8⟩, f9, f10⟩ := facts HI.out HE.out
            go_wp2_with fail
            clear f1 f2 f3 f4 f5 f6 f7 f8 f9 f10

            refine (winnowlaw1_roomy.calls (B.length + 65) A2 c2 B L _ (HHR.out _ HI.out.2.2.2.2) HHL.out HRM.out).mono ?_
            rintro e w20 ⟨vr, rfl, hF, hB⟩
            obtain ⟨Ar, cr, rfl, hcr, hCr⟩ := Kd.R_reads hF
            have HI20 := Aside0.mk (HI.out.below hB)
            have HE20 := Aside0.mk (HE.out.below hB)
            clear HI HE hF hB
            have HI := HI20
            have HE := HE20
            clear HI20 HE20
            obtain ⟨⟨f1, f2, f3, f4⟩, ⟨f5, f6, f7, f8⟩, f9, f10⟩ := facts HI.out HE.out
            go_wp2_with fail
            clear f1 f2 f3 f4 f5 f6 f7 f8 f9 f10
            refine (winnowlaw1_same.calls (L.length + 1) Af cf L Ar cr L _ _ (Kd.R_reads' HE.out.2).2.2 Hcf.out hCr hcr (same_eq _ L L (by have := HLB.out; have := HXX.out; omega) (by omega))).mono ?_
            rintro e w21 ⟨rfl, hD⟩
            have HI21 := Aside0.mk (HI.out.below hD.below)
            have HE21 := Aside0.mk (HE.out.below hD.below)
            clear HI HE hD hcr hCr
            have HI := HI21
            have HE := HE21
            clear HI21 HE21
            obtain ⟨⟨f1, f2, f3, f4⟩, ⟨f5, f6, f7, f8⟩, f9, f10⟩ := facts HI.out HE.out
            have hdL : decide (L = L) = true := decide_eq_true rfl
            go_wp2_with fail
            clear f1 f2 f3 f4 f5 f6 f7 f8 f9 f10
            refine (winnowlaw1_next.calls_in (L.length + 1) _ _ L (inc L) w _ HI.out.2.2.2.2 HE.out.2 (next_eq L (by have := HLB.out; have := HXX.out; omega) _ (by omega))).mono ?_
            rintro e w22 ⟨rfl, _, hB, hK⟩
            have HIE := over HI.out HE.out hK hB
            clear HI HE hB hK
            have HI := Aside0.mk HIE.1
            have HGX := Aside0.mk HIE.2
            have f9 : w22.cell? ⟨gx, 0, none⟩ = some (.int .i64 0) := (blk_cell HGX.out 0).trans rfl
            clear HIE

            go_wp2_with fail
            go_region
            go_wp2_with fail
            clear f9

            have hwi : wrap64 ((i : Int) + 1) = ((i + 1 : Nat) : Int) := by (have := HL.out; unfold wrap64; omega)
            go_roundw
            case rel => exact ⟨i + 1, _, _, _, _, by omega, by rw [hwi], ⟨by first | exact HI.out | exact HI.out.drew | exact HI.out.drew.drew⟩, ⟨upd_len HLA.out 1 _ (by rw [List.length_append]; have := HLA.out 1 (by omega); have := HXL.out; omega) (by have := HXL.out; omega)⟩⟩
            case measure => rw [hwi]; simp [intOf]; omega
          by_cases ho1 : op = 1
          · subst ho1
            obtain ⟨⟨f1, f2, f3, f4⟩, ⟨f5, f6, f7, f8⟩, f9, f10⟩ := facts HI.out HE.out
            go_wp2_with fail
            clear f1 f2 f3 f4 f5 f6 f7 f8 f9 f10
            refine (crc_Running_Reset.calls (a 1) _ _ 0 0 w w10 (HI.out.2.2.1 1 (by omega)).1 HI.out.2.2.2.2 rfl).mono ?_
            rintro e w11 ⟨rfl, hI, hB, hK⟩
            have HIE := goOnA HI.out HE.out 1 (by omega) [] (by rw [ext0]; exact hI) hK hB
            clear HI HE hI hB hK
            have HI := Aside0.mk HIE.1
            have HE := Aside0.mk HIE.2
            clear HIE
            obtain ⟨⟨f1, f2, f3, f4⟩, ⟨f5, f6, f7, f8⟩, f9, f10⟩ := facts HI.out HE.out
            go_wp2_with fail
            clear f1 f2 f3 f4 f5 f6 f7 f8 f9 f10
            have hpre := goOnB_pre HI.out 1 (by omega)
            refine (RefReset w w11 (b 1) _ (la 1) HI.out.2.2.2.2 hpre.1).mono ?_
            clear hpre
            rintro e w12 ⟨rfl, hR, hK, hB⟩
            obtain ⟨col1, HIE⟩ := goOnB HI.out HE.out 1 (by omega) _ hR (hK.mono (fun _ h => .inl h)) hB
            clear HI HE hR hK hB
            have HI := Aside0.mk HIE.1
            have HE := Aside0.mk HIE.2
            clear HIE
            obtain ⟨⟨f1, f2, f3, f4⟩, ⟨f5, f6, f7, f8⟩, f9, f10⟩ := facts HI.out HE.out
            go_wp2_with fail
            clear f1 f2 f3 f4 f5 f6 f7 f8 f9 f10

            refine (winnowlaw1_roomy.calls (B.length + 65) A2 c2 B L _ (HHR.out _ HI.out.2.2.2.2) HHL.out HRM.out).mono ?_
            rintro e w20 ⟨vr, rfl, hF, hB⟩
            obtain ⟨Ar, cr, rfl, hcr, hCr⟩ := Kd.R_reads hF
            have HI20 := Aside0.mk (HI.out.below hB)
            have HE20 := Aside0.mk (HE.out.below hB)
            clear HI HE hF hB
            have HI := HI20
            have HE := HE20
            clear HI20 HE20
            obtain ⟨⟨f1, f2, f3, f4⟩, ⟨f5, f6, f7, f8⟩, f9, f10⟩ := facts HI.out HE.out
            go_wp2_with fail
            clear f1 f2 f3 f4 f5 f6 f7 f8 f9 f10
            refine (winnowlaw1_same.calls (L.length + 1) Af cf L Ar cr L _ _ (Kd.R_reads' HE.out.2).2.2 Hcf.out hCr hcr (same_eq _ L L (by have := HLB.out; have := HXX.out; omega) (by omega))).mono ?_
            rintro e w21 ⟨rfl, hD⟩
            have HI21 := Aside0.mk (HI.out.below hD.below)
            have HE21 := Aside0.mk (HE.out.below hD.below)
            clear HI HE hD hcr hCr
            have HI := HI21
            have HE := HE21
            clear HI21 HE21
            obtain ⟨⟨f1, f2, f3, f4⟩, ⟨f5, f6, f7, f8⟩, f9, f10⟩ := facts HI.out HE.out
            have hdL : decide (L = L) = true := decide_eq_true rfl
            go_wp2_with fail
            clear f1 f2 f3 f4 f5 f6 f7 f8 f9 f10
            refine (winnowlaw1_next.calls_in (L.length + 1) _ _ L (inc L) w _ HI.out.2.2.2.2 HE.out.2 (next_eq L (by have := HLB.out; have := HXX.out; omega) _ (by omega))).mono ?_
            rintro e w22 ⟨rfl, _, hB, hK⟩
            have HIE := over HI.out HE.out hK hB
            clear HI HE hB hK
            have HI := Aside0.mk HIE.1
            have HGX := Aside0.mk HIE.2
            have f9 : w22.cell? ⟨gx, 0, none⟩ = some (.int .i64 1) := (blk_cell HGX.out 0).trans rfl
            clear HIE

            go_wp2_with fail
            go_region
            go_wp2_with fail
            clear f9

            have hwi : wrap64 ((i : Int) + 1) = ((i + 1 : Nat) : Int) := by (have := HL.out; unfold wrap64; omega)
            go_roundw
            case rel => exact ⟨i + 1, _, _, _, _, by omega, by rw [hwi], ⟨by first | exact HI.out | exact HI.out.drew | exact HI.out.drew.drew⟩, ⟨upd_len HLA.out 1 _ (Nat.zero_le _) (by have := HXL.out; omega)⟩⟩
            case measure => rw [hwi]; simp [intOf]; omega
          by_cases ho2 : op = 2
          · subst ho2
            obtain ⟨⟨f1, f2, f3, f4⟩, ⟨f5, f6, f7, f8⟩, f9, f10⟩ := facts HI.out HE.out
            go_wp2_with fail
            clear f1 f2 f3 f4 f5 f6 f7 f8 f9 f10
            refine (crc_New.calls 0 0 w10 w10 (Below.refl _ _) rfl).mono ?_
            rintro e w11 ⟨g, rfl, hI, _, hB⟩
            obtain ⟨col1, a1, HIE⟩ := renewA HI.out HE.out 1 (by omega) g hI hB
            obtain ⟨W11, hW11⟩ : ∃ W, W = w11.setCell ⟨gr, 1, none⟩ (pt g) := ⟨_, rfl⟩
            have H11 := Aside0.mk (show W11 = w11.setCell ⟨gr, 1, none⟩ (.pointer (some ⟨g, 0, none⟩)) from hW11)
            have hgr := (hB.block _ (blk_lt HI.out.1.1)).trans HI.out.1.1
            have g1 := (two_get hgr 1 (by omega)).1
            have g2 := (two_get hgr 1 (by omega)).2
            rw [← hW11] at HIE
            clear HI HE hI hB hW11 hgr
            have HI := Aside0.mk HIE.1
            have HE := Aside0.mk HIE.2
            clear HIE
            obtain ⟨⟨f1, f2, f3, f4⟩, ⟨f5, f6, f7, f8⟩, f9, f10⟩ := facts HI.out HE.out
            go_wp2_with (rw [← H11.out])
            clear g1 g2
            clear f1 f2 f3 f4 f5 f6 f7 f8 f9 f10
            refine (RefNew w W11 (fun _ => False) HI.out.2.2.2.2).mono ?_
            rintro e w12 ⟨g', rfl, hg, hR, hB⟩
            obtain ⟨col2, b1, HIE⟩ := renewB HI.out HE.out 1 (by omega) g' hR hg hB
            obtain ⟨W12, hW12⟩ : ∃ W, W = w12.setCell ⟨gq, 1, none⟩ (pt g') := ⟨_, rfl⟩
            have H12 := Aside0.mk (show W12 = w12.setCell ⟨gq, 1, none⟩ (.pointer (some ⟨g', 0, none⟩)) from hW12)
            have hgq := (hB.block _ (blk_lt HI.out.2.1.1)).trans HI.out.2.1.1
            have g1 := (two_get hgq 1 (by omega)).1
            have g2 := (two_get hgq 1 (by omega)).2
            rw [← hW12] at HIE
            clear HI HE hg hR hB hW12 hgq
            have HI := Aside0.mk HIE.1
            have HE := Aside0.mk HIE.2
            clear HIE
            obtain ⟨⟨f1, f2, f3, f4⟩, ⟨f5, f6, f7, f8⟩, f9, f10⟩ := facts HI.out HE.out
            go_wp2_with (rw [← H12.out])
            clear g1 g2
            clear f1 f2 f3 f4 f5 f6 f7 f8 f9 f10

            refine (winnowlaw1_roomy.calls (B.length + 65) A2 c2 B L _ (HHR.out _ HI.out.2.2.2.2) HHL.out HRM.out).mono ?_
            rintro e w20 ⟨vr, rfl, hF, hB⟩
            obtain ⟨Ar, cr, rfl, hcr, hCr⟩ := Kd.R_reads hF
            have HI20 := Aside0.mk (HI.out.below hB)
            have HE20 := Aside0.mk (HE.out.below hB)
            clear HI HE hF hB
            have HI := HI20
            have HE := HE20
            clear HI20 HE20
            obtain ⟨⟨f1, f2, f3, f4⟩, ⟨f5, f6, f7, f8⟩, f9, f10⟩ := facts HI.out HE.out
            go_wp2_with fail
            clear f1 f2 f3 f4 f5 f6 f7 f8 f9 f10
            refine (winnowlaw1_same.calls (L.length + 1) Af cf L Ar cr L _ _ (Kd.R_reads' HE.out.2).2.2 Hcf.out hCr hcr (same_eq _ L L (by have := HLB.out; have := HXX.out; omega) (by omega))).mono ?_
            rintro e w21 ⟨rfl, hD⟩
            have HI21 := Aside0.mk (HI.out.below hD.below)
            have HE21 := Aside0.mk (HE.out.below hD.below)
            clear HI HE hD hcr hCr
            have HI := HI21
            have HE := HE21
            clear HI21 HE21
            obtain ⟨⟨f1, f2, f3, f4⟩, ⟨f5, f6, f7, f8⟩, f9, f10⟩ := facts HI.out HE.out
            have hdL : decide (L = L) = true := decide_eq_true rfl
            go_wp2_with fail
            clear f1 f2 f3 f4 f5 f6 f7 f8 f9 f10
            refine (winnowlaw1_next.calls_in (L.length + 1) _ _ L (inc L) w _ HI.out.2.2.2.2 HE.out.2 (next_eq L (by have := HLB.out; have := HXX.out; omega) _ (by omega))).mono ?_
            rintro e w22 ⟨rfl, _, hB, hK⟩
            have HIE := over HI.out HE.out hK hB
            clear HI HE hB hK
            have HI := Aside0.mk HIE.1
            have HGX := Aside0.mk HIE.2
            have f9 : w22.cell? ⟨gx, 0, none⟩ = some (.int .i64 2) := (blk_cell HGX.out 0).trans rfl
            clear HIE

            go_wp2_with fail
            go_region
            go_wp2_with fail
            clear f9

            have hwi : wrap64 ((i : Int) + 1) = ((i + 1 : Nat) : Int) := by (have := HL.out; unfold wrap64; omega)
            go_roundw
            case rel => exact ⟨i + 1, _, _, _, _, by omega, by rw [hwi], ⟨by first | exact HI.out | exact HI.out.drew | exact HI.out.drew.drew⟩, ⟨upd_len HLA.out 1 _ (Nat.zero_le _) (by have := HXL.out; omega)⟩⟩
            case measure => rw [hwi]; simp [intOf]; omega
          have ho3 : (op == 0) = false := by simpa using ho0
          have ho4 : (op == 1) = false := by simpa using ho1
          have ho5 : (op == 2) = false := by simpa using ho2
          clear ho0 ho1 ho2

          obtain ⟨⟨f1, f2, f3, f4⟩, ⟨f5, f6, f7, f8⟩, f9, f10⟩ := facts HI.out HE.out
          go_wp2_with fail
          clear f1 f2 f3 f4 f5 f6 f7 f8 f9 f10

          refine (winnowlaw1_roomy.calls (B.length + 65) A2 c2 B L _ (HHR.out _ HI.out.2.2.2.2) HHL.out HRM.out).mono ?_
          rintro e w20 ⟨vr, rfl, hF, hB⟩
          obtain ⟨Ar, cr, rfl, hcr, hCr⟩ := Kd.R_reads hF
          have HI20 := Aside0.mk (HI.out.below hB)
          have HE20 := Aside0.mk (HE.out.below hB)
          clear HI HE hF hB
          have HI := HI20
          have HE := HE20
          clear HI20 HE20
          obtain ⟨⟨f1, f2, f3, f4⟩, ⟨f5, f6, f7, f8⟩, f9, f10⟩ := facts HI.out HE.out
          go_wp2_with fail
          clear f1 f2 f3 f4 f5 f6 f7 f8 f9 f10
          refine (winnowlaw1_same.calls (L.length + 1) Af cf L Ar cr L _ _ (Kd.R_reads' HE.out.2).2.2 Hcf.out hCr hcr (same_eq _ L L (by have := HLB.out; have := HXX.out; omega) (by omega))).mono ?_
          rintro e w21 ⟨rfl, hD⟩
          have HI21 := Aside0.mk (HI.out.below hD.below)
          have HE21 := Aside0.mk (HE.out.below hD.below)
          clear HI HE hD hcr hCr
          have HI := HI21
          have HE := HE21
          clear HI21 HE21
          obtain ⟨⟨f1, f2, f3, f4⟩, ⟨f5, f6, f7, f8⟩, f9, f10⟩ := facts HI.out HE.out
          have hdL : decide (L = L) = true := decide_eq_true rfl
          go_wp2_with fail
          clear f1 f2 f3 f4 f5 f6 f7 f8 f9 f10
          refine (winnowlaw1_next.calls_in (L.length + 1) _ _ L (inc L) w _ HI.out.2.2.2.2 HE.out.2 (next_eq L (by have := HLB.out; have := HXX.out; omega) _ (by omega))).mono ?_
          rintro e w22 ⟨rfl, _, hB, hK⟩
          have HIE := over HI.out HE.out hK hB
          clear HI HE hB hK
          have HI := Aside0.mk HIE.1
          have HGX := Aside0.mk HIE.2
          have f9 : w22.cell? ⟨gx, 0, none⟩ = some (.int .i64 op) := (blk_cell HGX.out 0).trans rfl
          clear HIE
          by_cases hg : 2 < op
          ·
            have hg2 : decide (2 < op) = true := decide_eq_true hg
            clear hg
            have lt0 : 0 < 2 := by omega
            have lt1 : 1 < 2 := by omega
            have hl0 := HLA2.out 0 lt0
            have hl1 := HLA2.out 1 lt1
            have hM2 := JNV.drew ⟨HI.out, HGX.out⟩
            obtain ⟨⟨f1, f2, f3, f4⟩, f5⟩ := hM2.cells
            go_wp2_with fail
            go_region_held3 (fun w' => JNV w gr gq gx #[.int .i64 op, .int .i64 who, .slice A2 B.length c2] col a b la w' ∧ (w'.cell? ⟨gr, 0, none⟩ = some (.pointer (some ⟨a 0, 0, none⟩)) ∧ w'.cell? ⟨gr, 1, none⟩ = some (.pointer (some ⟨a 1, 0, none⟩)) ∧ w'.cell? ⟨gq, 0, none⟩ = some (.pointer (some ⟨b 0, 0, none⟩)) ∧ w'.cell? ⟨gq, 1, none⟩ = some (.pointer (some ⟨b 1, 0, none⟩))) ∧ w'.cell? ⟨gx, 0, none⟩ = some (.int .i64 op)) (first | exact ⟨hM2, hM2.cells⟩ | go_keep) ((first | (go_at_call 36; with_reducible refine ((hM2.inv).sum 0 lt0).mono ?_; rintro e w2 ⟨rfl, hB2⟩; replace hM2 := JNV.below hM2 hB2) | (go_at_call 36; with_reducible refine ((hM2.inv).sum 1 lt1).mono ?_; rintro e w2 ⟨rfl, hB2⟩; replace hM2 := JNV.below hM2 hB2) | (go_at_call 37; with_reducible refine ((hM2.inv).rsum 0 lt0 hl0).mono ?_; rintro e w2 ⟨rfl, hB2⟩; replace hM2 := JNV.below hM2 hB2) | (go_at_call 37; with_reducible refine ((hM2.inv).rsum 1 lt1 hl1).mono ?_; rintro e w2 ⟨rfl, hB2⟩; replace hM2 := JNV.below hM2 hB2) | (go_at_call 38; with_reducible refine ((hM2.inv).len 0 lt0).mono ?_; rintro e w2 ⟨rfl, hB2⟩; replace hM2 := JNV.below hM2 hB2) | (go_at_call 38; with_reducible refine ((hM2.inv).len 1 lt1).mono ?_; rintro e w2 ⟨rfl, hB2⟩; replace hM2 := JNV.below hM2 hB2) | (go_at_call 39; with_reducible refine ((hM2.inv).rlen 0 lt0 hl0).mono ?_; rintro e w2 ⟨rfl, hB2⟩; replace hM2 := JNV.below hM2 hB2) | (go_at_call 39; with_reducible refine ((hM2.inv).rlen 1 lt1 hl1).mono ?_; rintro e w2 ⟨rfl, hB2⟩; replace hM2 := JNV.below hM2 hB2)))
            clear HI
            have HI := Aside0.mk hM2.1
            clear f1 f2 f3 f4 f5 f9 lt0 lt1 hl0 hl1
            go_wp2_with fail

            have hwi : wrap64 ((i : Int) + 1) = ((i + 1 : Nat) : Int) := by (have := HL.out; unfold wrap64; omega)
            go_roundw
            case rel => exact ⟨i + 1, _, _, _, _, by omega, by rw [hwi], ⟨by first | exact HI.out | exact HI.out.drew | exact HI.out.drew.drew⟩, ⟨fun j hj => by have := HLA.out j hj; have := HXL.out; omega⟩⟩
            case measure => rw [hwi]; simp [intOf]; omega
          ·
            have hg2 : decide (2 < op) = false := decide_eq_false hg
            clear hg
            go_wp2_with fail
            go_region
            go_wp2_with fail
            clear f9

            have hwi : wrap64 ((i : Int) + 1) = ((i + 1 : Nat) : Int) := by (have := HL.out; unfold wrap64; omega)
            go_roundw
            case rel => exact ⟨i + 1, _, _, _, _, by omega, by rw [hwi], ⟨by first | exact HI.out | exact HI.out.drew | exact HI.out.drew.drew⟩, ⟨fun j hj => by have := HLA.out j hj; have := HXL.out; omega⟩⟩
            case measure => rw [hwi]; simp [intOf]; omega
      · have hi2 : i = l.length := by omega
        have hd1 : decide ((i : Int) < (l.length : Int)) = false := by simp; omega
        have HLA2 := Aside0.mk (show ∀ j, j < 2 → (la j).length ≤ 2147483647 from fun j hj => by have := HLA.out j hj; have := acts_take_le l i; have := HN.out; omega)
        have HI := HINV
        clear HINV hi2
        obtain ⟨f1, f2, f3, f4⟩ := facts0 HI.out
        go_wp2_with fail
        clear f1 f2 f3 f4
        have lt0 : 0 < 2 := by omega
        have lt1 : 1 < 2 := by omega
        have hl0 := HLA2.out 0 lt0
        have hl1 := HLA2.out 1 lt1
        have hM2 := HI.out.drew
        obtain ⟨f1, f2, f3, f4⟩ := facts0 hM2
        go_region_held3 (fun w' => INV w w' gr gq col a b la la ∧ (w'.cell? ⟨gr, 0, none⟩ = some (.pointer (some ⟨a 0, 0, none⟩)) ∧ w'.cell? ⟨gr, 1, none⟩ = some (.pointer (some ⟨a 1, 0, none⟩)) ∧ w'.cell? ⟨gq, 0, none⟩ = some (.pointer (some ⟨b 0, 0, none⟩)) ∧ w'.cell? ⟨gq, 1, none⟩ = some (.pointer (some ⟨b 1, 0, none⟩)))) (first | exact ⟨hM2, facts0 hM2⟩ | go_keep) ((first | (go_at_call 36; with_reducible refine ((hM2).sum 0 lt0).mono ?_; rintro e w2 ⟨rfl, hB2⟩; replace hM2 := INV.below hM2 hB2) | (go_at_call 36; with_reducible refine ((hM2).sum 1 lt1).mono ?_; rintro e w2 ⟨rfl, hB2⟩; replace hM2 := INV.below hM2 hB2) | (go_at_call 37; with_reducible refine ((hM2).rsum 0 lt0 hl0).mono ?_; rintro e w2 ⟨rfl, hB2⟩; replace hM2 := INV.below hM2 hB2) | (go_at_call 37; with_reducible refine ((hM2).rsum 1 lt1 hl1).mono ?_; rintro e w2 ⟨rfl, hB2⟩; replace hM2 := INV.below hM2 hB2) | (go_at_call 38; with_reducible refine ((hM2).len 0 lt0).mono ?_; rintro e w2 ⟨rfl, hB2⟩; replace hM2 := INV.below hM2 hB2) | (go_at_call 38; with_reducible refine ((hM2).len 1 lt1).mono ?_; rintro e w2 ⟨rfl, hB2⟩; replace hM2 := INV.below hM2 hB2) | (go_at_call 39; with_reducible refine ((hM2).rlen 0 lt0 hl0).mono ?_; rintro e w2 ⟨rfl, hB2⟩; replace hM2 := INV.below hM2 hB2) | (go_at_call 39; with_reducible refine ((hM2).rlen 1 lt1 hl1).mono ?_; rintro e w2 ⟨rfl, hB2⟩; replace hM2 := INV.below hM2 hB2)))
        clear HI
        have HI := Aside0.mk hM2
        clear f1 f2 f3 f4 lt0 lt1 hl0 hl1
        go_wp2_with fail
        have HB := Aside0.mk HI.out.2.2.2.2
        clear HI
        refine (SumNil _).mono ?_
        rintro e w40 ⟨rfl, hB⟩
        have HB2 := Aside0.mk (below_step HB.out hB)
        clear hB
        go_wp2_with fail
        refine (LenNil _).mono ?_
        rintro e w41 ⟨rfl, hB⟩
        have HB3 := Aside0.mk (below_step HB2.out hB)
        clear hB
        go_wp2_with fail
        go_ret
        exact ⟨by first | rfl | (simp; done), HB3.out⟩
/-- The law as a function with a contract: true of whatever is not too long. -/
def winnowlaw1_CrcRunning.f (l : List S52) : Option Bool := if l.length ≤ 140737488351232 ∧ (∀ x ∈ l, x.f2.length ≤ 140737488351232) then some true else none
theorem winnowlaw1_CrcRunning.calls (A0 : Option Addr) (c0 : Nat) (l : List S52) (r : Bool) (w : World) (hr0 : Kd.C k52 w A0 l.length l) (hc0 : l.length ≤ c0) (h : winnowlaw1_CrcRunning.f l = some r) :
    Calls Try.prog 10 #[.slice A0 l.length c0] w fun e w' => e = .returned (.bool r) ∧ Below w.heap.size w w' := by
  unfold winnowlaw1_CrcRunning.f at h
  by_cases hl : l.length ≤ 140737488351232 ∧ (∀ x ∈ l, x.f2.length ≤ 140737488351232)
  · rw [if_pos hl] at h
    injection h with h
    subst h
    exact CrcRunning_walk A0 c0 l w hr0 hc0 hl.1 hl.2
  · rw [if_neg hl] at h
    cases h
end Go.Proofs.Ytghajggnakhobaa.P
