/- Several texts laid together (wip/tools/merge2.py): HPaid. -/
import Derived.Test.YtponmfnegdlppaaDoorMP18
import Derived.Outline
import Derived.Deep.DeepCutAuto
import Derived.Deep.RegionHeld3
section
/- The law on what is paid: its walk (printed by HPaid.gen.py). -/
namespace Go.Proofs.YtponmfnegdlppaaDoor.P
open Go.RowKit Go.Proofs.YtponmfnegdlppaaDoorW.PrintWords Go.Proofs.YtponmfnegdlppaaDoorW.PrintLast Go.Proofs.YtponmfnegdlppaaDoorW.PrintMore
set_option linter.unusedVariables false
set_option linter.unusedSimpArgs false

theorem LX.store12 {w W : World} {A0 A1 : Option Addr} {l0 l1 : List S38} {R : List It} {g16 bN : Bx} {g12 t : Nat} {z0 z1 z2 z3 : Value} (h : LX w (g16 :: bN :: ⟨g12, #[z0, z1, z2, z3], t⟩ :: []) R A0 l0 A1 l1 W) (v0 v1 v2 v3 : Value) :
    Env w (bN :: ⟨g12, #[v0, v1, v2, v3], t⟩ :: []) R ((((W.setCell ⟨g12, 0, none⟩ v0).setCell ⟨g12, 1, none⟩ v1).setCell ⟨g12, 2, none⟩ v2).setCell ⟨g12, 3, none⟩ v3) :=
  (((h.env.sub (.cons _ (List.Sublist.refl _)) (List.Sublist.refl _)).bswap).book4 v0 v1 v2 v3).bswap
set_option maxHeartbeats 16000000 in
set_option maxRecDepth 100000 in
theorem LedgerPaid_walk (a0 a1 a2 : Int) (A0 : Option Addr) (c0 : Nat) (l : List S58) (m r : Nat) (t : Int) (w : World) (hr0 : Kd.C k58 w A0 l.length l) (hc0 : l.length ≤ c0) (hlen : l.length ≤ 4400000000000) (hT : Tab w) (hm0 : winnowlaw19_few.f a0 0 6 = some (m : Int)) (hm1 : winnowlaw19_few.f a1 1 6 = some (r : Int)) (hm2 : winnowlaw19_few.f a2 1 5 = some t) (hb : m ≤ 6 ∧ 1 ≤ r ∧ r ≤ 6 ∧ 1 ≤ t ∧ t ≤ 5) :
    Calls Tryd.prog 8 #[.int .i64 a0, .int .i64 a1, .int .i64 a2, .slice A0 l.length c0] w fun e w' => e = .returned (.bool true) ∧ Below w.heap.size w w' := by
  have HR := Aside0.mk hr0
  have HC := Aside0.mk hc0
  have HT := Aside0.mk hT
  have HM0 := Aside0.mk hm0
  have HM1 := Aside0.mk hm1
  have HM2 := Aside0.mk hm2
  have HB0 := Aside0.mk hb
  have HLEN := Aside0.mk hlen
  clear hr0 hc0 hT hm0 hm1 hm2 hb hlen
  have hE := Env.start w
  have HE := Aside0.mk hE
  clear hE
  obtain ⟨L0, hL0⟩ : ∃ L, List.replicate m z38 = L := ⟨_, rfl⟩
  obtain ⟨L1, hL1⟩ : ∃ L, List.replicate r z38 = L := ⟨_, rfl⟩
  have HL0 := Aside0.mk hL0
  have HL1 := Aside0.mk hL1
  clear hL0 hL1
  have hu22 := Tryd.underlying22
  have hu24 := Tryd.underlying24
  have hu26 := Tryd.underlying26
  have hu29 := Tryd.underlying29
  have hu38 := Tryd.underlying38
  have hu52 := Tryd.underlying52
  have hu53 := Tryd.underlying53
  have hu54 := Tryd.underlying54
  have hu56 := Tryd.underlying56
  have hu58 := Tryd.underlying58
  go_enter Tryd.func8, Tryd.ntmps8
  go_wp2_with fail
  refine (winnowlaw19_few.calls a0 0 6 (m : Int) _ HM0.out).mono ?_
  rintro e w1 ⟨rfl, hB⟩
  have hE := HE.out.below hB.below
  clear HE hB
  have HE := Aside0.mk hE
  clear hE
  go_wp2_with fail
  refine (winnowlaw19_few.calls a1 1 6 (r : Int) _ HM1.out).mono ?_
  rintro e w2 ⟨rfl, hB⟩
  have hE := HE.out.below hB.below
  clear HE hB
  have HE := Aside0.mk hE
  clear hE
  go_wp2_with fail
  refine (winnowlaw19_few.calls a2 1 5 t _ HM2.out).mono ?_
  rintro e w3 ⟨rfl, hB⟩
  have hE := HE.out.below hB.below
  clear HE hB
  have HE := Aside0.mk hE
  clear hE
  go_wp2_with fail
  refine (ledger_New.calls m r t t L0 L1 false 0 _ (by rw [new_eq HB0.out.1 HB0.out.2.1 HB0.out.2.2.1 HB0.out.2.2.2.1 HB0.out.2.2.2.2, HL0.out, HL1.out])).mono ?_
  rintro e w4 ⟨v0, v1, rfl, s0, s1, hB⟩
  have hE := HE.out.rows2 hB rfl s0 s1 1 2 (show ([1, 2] : List Nat).Nodup from by decide) (by decide) (by decide)
  obtain ⟨P0, q0_, rfl⟩ := Kd.R_slice s0
  obtain ⟨P1, q1_, rfl⟩ := Kd.R_slice s1
  clear hB s0 s1 HE
  have HE := Aside0.mk hE
  clear hE
  go_upto_region 5 with fail
  have hE := HE.out.push #[.int .i64 t, .slice P0 L0.length q0_, .slice P1 L1.length q1_, .bool false] 24
  obtain ⟨g12, hg⟩ : ∃ g, g = w4.heap.size := ⟨_, rfl⟩
  rw [← hg] at hE ⊢
  generalize w4.alloc (.cells #[.int .i64 t, .slice P0 L0.length q0_, .slice P1 L1.length q1_, .bool false] 24) = w5 at hE ⊢
  clear hg HE
  have HE := Aside0.mk hE
  clear hE
  obtain ⟨RL, hRL⟩ : ∃ r, readyP t L0 L1 false = r := ⟨_, rfl⟩
  have HRL := Aside0.mk hRL
  have hne_ : RL ≠ [] := by rw [← hRL, ← HL0.out, ← HL1.out]; exact new_ready HB0.out.1 HB0.out.2.1 HB0.out.2.2.1 HB0.out.2.2.2.1 HB0.out.2.2.2.2
  have hpos_ : 0 < RL.length := List.length_pos_iff.2 hne_
  obtain ⟨nr, hnr⟩ : ∃ n, RL.length = n := ⟨_, rfl⟩
  rw [hnr] at hpos_
  have HNR := Aside0.mk hnr
  have hz_ : ((nr : Int) == 0) = false := by simp; omega
  have hz2_ : (nr == 0) = false := by simp; omega
  clear hRL hne_ hnr hpos_
  have xg12_0 : w5.cell? ⟨g12, 0, none⟩ = some (.int .i64 t) := HE.out.at_ 0 0 rfl rfl
  have xg12_1 : w5.cell? ⟨g12, 1, none⟩ = some (.slice P0 L0.length q0_) := HE.out.at_ 0 1 rfl rfl
  have xg12_2 : w5.cell? ⟨g12, 2, none⟩ = some (.slice P1 L1.length q1_) := HE.out.at_ 0 2 rfl rfl
  have xg12_3 : w5.cell? ⟨g12, 3, none⟩ = some (.bool false) := HE.out.at_ 0 3 rfl rfl
  go_wp2_with fail
  refine (ledger_Ready.calls 70001 t P0 q0_ L0 P1 q1_ L1 false RL _ (HE.out.row_ 0 rfl) (HE.out.cap_ 0 rfl).2 (HE.out.row_ 1 rfl) (HE.out.cap_ 1 rfl).2 (by rw [ready_eq 70001 t L0 L1 false (by omega), HRL.out]) (HE.out.tab HT.out)).mono ?_
  clear xg12_0 xg12_1 xg12_2 xg12_3
  rintro e w6 ⟨v0, rfl, s0, hB⟩
  obtain ⟨D1, d1, rfl⟩ := Kd.R_slice s0
  rw [HNR.out]
  have hE := HE.out.below hB
  clear HE hB s0
  have HE := Aside0.mk hE
  clear hE
  have xg12_0 : w6.cell? ⟨g12, 0, none⟩ = some (.int .i64 t) := HE.out.at_ 0 0 rfl rfl
  have xg12_1 : w6.cell? ⟨g12, 1, none⟩ = some (.slice P0 L0.length q0_) := HE.out.at_ 0 1 rfl rfl
  have xg12_2 : w6.cell? ⟨g12, 2, none⟩ = some (.slice P1 L1.length q1_) := HE.out.at_ 0 2 rfl rfl
  have xg12_3 : w6.cell? ⟨g12, 3, none⟩ = some (.bool false) := HE.out.at_ 0 3 rfl rfl
  go_wp2_with fail
  refine (winnowlaw19_sized.calls t P0 q0_ _ P1 q1_ _ false m r true _ (HE.out.row_ 0 rfl) (HE.out.cap_ 0 rfl).2 (HE.out.row_ 1 rfl) (HE.out.cap_ 1 rfl).2 (sized_eq t _ _ false m r (by rw [← HL0.out]; exact List.length_replicate) (by rw [← HL1.out]; exact List.length_replicate))).mono ?_
  clear xg12_0 xg12_1 xg12_2 xg12_3
  rintro e w7 ⟨rfl, hB⟩
  have hE := HE.out.below hB
  clear HE hB
  have HE := Aside0.mk hE
  clear hE
  clear hz_ hz2_
  go_upto_region 7 with fail
  go_upto_region 8 with fail
  rw [zero56]
  have hE := HE.out.push (ncells (fun _ => false) (fun _ => false) 0 0) 56
  obtain ⟨gN, hg⟩ : ∃ g, g = w7.heap.size := ⟨_, rfl⟩
  rw [← hg] at hE ⊢
  generalize w7.alloc (.cells (ncells (fun _ => false) (fun _ => false) 0 0) 56) = w8 at hE ⊢
  clear hg HE
  have HE := Aside0.mk hE
  clear hE
  go_wp2_with fail
  have HI0 := Aside0.mk (show INV t L0 L1 false m r (fun _ => false) (fun _ => false) 0 0 by rw [← HL0.out, ← HL1.out]; exact INV.start HB0.out.2.2.2.1 (by have := HB0.out; omega) (by have := HB0.out; omega) HB0.out.2.1 (by have := HB0.out; omega))
  go_loopw [15] (fun v wr => ∃ i : Nat, i ≤ l.length ∧ v = .int .i64 i ∧ Aside0 (SR w gN g12 t m r wr)) (fun v _ => l.length - (intOf v).toNat)
  case atStart => exact ⟨0, Nat.zero_le _, rfl, ⟨_, _, _, _, _, _, _, _, _, _, _, HI0.out, HE.out⟩⟩
  case round =>
    clear HE HI0
    obtain ⟨i, hi, rfl, HS⟩ := hrel
    obtain ⟨A0_, A1_, p0, p1, l0, l1, fl, bg, ch, s, c, hI, hE⟩ := HS.out
    have HI := Aside0.mk hI
    have HE := Aside0.mk hE
    clear hI hE HS
    by_cases hlt : i < l.length
    · skip
      have hd1 : decide ((i : Int) < (l.length : Int)) = true := by simp; omega
      have p1_ : (0 : Int) ≤ (i : Int) := Int.natCast_nonneg i
      have q1_ : (i : Int) < (l.length : Int) := Int.ofNat_lt.2 hlt
      obtain ⟨ad, e, hx0, hx1, hx2, hx3⟩ := at_T58 HR.out i p1_ q1_
      subst e
      rw [Int.toNat_natCast] at hx0 hx1 hx2 hx3
      generalize rd_T58 l (i : Int) = x at hx0 hx1 hx2 hx3
      obtain ⟨y0, y1, y2, y3⟩ := x
      dsimp only at hx0 hx1 hx2 hx3
      have HWI := Aside0.mk (show wrap64 ((i : Int) + 1) = ((i + 1 : Nat) : Int) by have := HR.out; have := HLEN.out; unfold wrap64; omega)
      have HXM := Aside0.mk (fun (W : World) (hb : Below w.heap.size w W) => (show W.cell? (ad.add (i * 4)) = some (.int .i64 y0) ∧ W.cell? ⟨(ad.add (i * 4)).block, (ad.add (i * 4)).off + 1, none⟩ = some (.int .i64 y1) ∧ W.cell? ⟨(ad.add (i * 4)).block, (ad.add (i * 4)).off + 2, none⟩ = some (.int .i64 y2) ∧ W.cell? ⟨(ad.add (i * 4)).block, (ad.add (i * 4)).off + 3, none⟩ = some (.int .i64 y3) from
        ⟨cell_kept hx0 (Kept.of_below hb (fun _ => False)) (fun h => h), cell_kept hx1 (Kept.of_below hb (fun _ => False)) (fun h => h), cell_kept hx2 (Kept.of_below hb (fun _ => False)) (fun h => h), cell_kept hx3 (Kept.of_below hb (fun _ => False)) (fun h => h)⟩))
      clear hx0 hx1 hx2 hx3
      replace p1_ := eq_true p1_
      replace q1_ := eq_true q1_
      obtain ⟨o, ho⟩ : ∃ o, fewP y0 0 3 = o := ⟨_, rfl⟩
      obtain ⟨tk, htk⟩ : ∃ k, pickK y1 m r = k := ⟨_, rfl⟩
      obtain ⟨tb, htb⟩ : ∃ k, pickB y1 m r = k := ⟨_, rfl⟩
      obtain ⟨mt, hmt⟩ : ∃ mt : Nat, 1 ≤ m → fewP y2 0 ((m : Int) - 1) = mt := ⟨(fewP y2 0 ((m : Int) - 1)).toNat, fun h => by have := fewP_in y2 0 ((m : Int) - 1) (by omega); omega⟩
      obtain ⟨rt, hrt⟩ : ∃ rt : Nat, fewP y1 0 ((r : Int) - 1) = rt := ⟨(fewP y1 0 ((r : Int) - 1)).toNat, by have := HB0.out; have := fewP_in y1 0 ((r : Int) - 1) (by omega); omega⟩
      have HO := Aside0.mk ho
      have HTK := Aside0.mk htk
      have HTB := Aside0.mk htb
      have HMT := Aside0.mk hmt
      have HRT := Aside0.mk hrt
      have HCP := Aside0.mk (show l0.length ≤ p0 ∧ l1.length ≤ p1 from ⟨(HE.out.cap_ 0 rfl).2, (HE.out.cap_ 1 rfl).2⟩)
      clear ho htk htb hmt hrt
      go_upto_region 11 with fail
      go_cut [16, 17] (fun s0 s1 wx => ∃ (g16 : Nat) (C0 C1 : Option Addr) (q0 q1 : Nat) (k0 k1 : List S38) (fl' : Bool) (bg' ch' : Nat → Bool) (s' c' : Int), s0 = .pointer (some ⟨g16, 0, none⟩) ∧ s1 = .bool true ∧ Aside0 (INV t k0 k1 fl' m r bg' ch' s' c') ∧ Aside0 (fl = true → k0 = l0 ∧ k1 = l1 ∧ fl' = true) ∧ Aside0 (LX w (⟨g16, #[.int .i64 t, .slice C0 k0.length q0, .slice C1 k1.length q1, .bool fl'], 24⟩ :: ⟨gN, ncells bg' ch' s' c', 56⟩ :: ⟨g12, #[.int .i64 t, .slice A0_ l0.length p0, .slice A1_ l1.length p1, .bool fl], 24⟩ :: []) (⟨1, k38, 38, .slice C0 k0.length q0, k0⟩ :: ⟨2, k38, 38, .slice C1 k1.length q1, k1⟩ :: []) A0_ l0 A1_ l1 wx))
      case first =>
        as_aux_lemma =>
          have HSX := Aside0.mk (fun (w' : World) (b : Bx) (h : Env w (b :: ⟨g12, #[.int .i64 t, .slice A0_ l0.length p0, .slice A1_ l1.length p1, .bool fl], 24⟩ :: []) [] w') => (show w'.cell? ⟨g12, 0, none⟩ = some (.int .i64 t) ∧ w'.cell? ⟨g12, 1, none⟩ = some (.slice A0_ l0.length p0) ∧ w'.cell? ⟨g12, 2, none⟩ = some (.slice A1_ l1.length p1) ∧ w'.cell? ⟨g12, 3, none⟩ = some (.bool fl) ∧ w'.cell? (ad.add (i * 4)) = some (.int .i64 y0) ∧ w'.cell? ⟨(ad.add (i * 4)).block, (ad.add (i * 4)).off + 1, none⟩ = some (.int .i64 y1) ∧ w'.cell? ⟨(ad.add (i * 4)).block, (ad.add (i * 4)).off + 2, none⟩ = some (.int .i64 y2) ∧ w'.cell? ⟨(ad.add (i * 4)).block, (ad.add (i * 4)).off + 3, none⟩ = some (.int .i64 y3) from ⟨h.at_ 1 0 rfl rfl, h.at_ 1 1 rfl rfl, h.at_ 1 2 rfl rfl, h.at_ 1 3 rfl rfl, HXM.out _ h.out⟩))
          go_region_held3 (fun w' => w'.cell? ⟨g12, 0, none⟩ = some (.int .i64 t) ∧ w'.cell? ⟨g12, 1, none⟩ = some (.slice A0_ l0.length p0) ∧ w'.cell? ⟨g12, 2, none⟩ = some (.slice A1_ l1.length p1) ∧ w'.cell? ⟨g12, 3, none⟩ = some (.bool fl) ∧ w'.cell? (ad.add (i * 4)) = some (.int .i64 y0) ∧ w'.cell? ⟨(ad.add (i * 4)).block, (ad.add (i * 4)).off + 1, none⟩ = some (.int .i64 y1) ∧ w'.cell? ⟨(ad.add (i * 4)).block, (ad.add (i * 4)).off + 2, none⟩ = some (.int .i64 y2) ∧ w'.cell? ⟨(ad.add (i * 4)).block, (ad.add (i * 4)).off + 3, none⟩ = some (.int .i64 y3)) (first
              | exact HSX.out _ _ (HMD.out.push #[.int .i64 t, .slice C0 k0.length q0, .slice C1 k1.length q1, .bool fl'] 24).bare1
              | exact HSX.out _ _ HMD.out.bare
              | exact HSX.out _ _ HMD.out.bare1
              | exact HSX.out _ _ (HMD.out.push #[.int .i64 0, .slice none 0 0, .slice none 0 0, .bool false] 24).bare1
              | exact HSX.out _ _ (HMD.out.book4 (.int .i64 t) (.slice C0 k0.length q0) (.slice C1 k1.length q1) (.bool fl')).bare1
              | exact HSX.out _ _ ((HMD.out.push #[.int .i64 0, .slice none 0 0, .slice none 0 0, .bool false] 24).book4 (.int .i64 t) (.slice C0 k0.length q0) (.slice C1 k1.length q1) (.bool fl')).bare1
              | exact HSX.out _ _ HE.out.bare
              | exact HSX.out _ _ HE.out.drew.bare
              | exact HSX.out _ _ (HE.out.push #[.int .i64 0, .slice none 0 0, .slice none 0 0, .bool false] 24).bare1
              | exact HSX.out _ _ (HE.out.push #[.int .i64 0, .slice none 0 0, .slice none 0 0, .bool false] 24).drew.bare1) (first
              | ((go_at_call 35; (with_reducible refine (made_any (o := o) (tk := tk) (tb := tb) (mt := mt) (rt := rt) HE.out.drew HT.out HI.out HB0.out.1 HB0.out.2.1 HB0.out.2.2.1 HO.out HTK.out HTB.out HMT.out HRT.out).mono ?_); rintro e w_m ⟨C0, C1, q0, q1, k0, k1, fl', bg', ch', s', c', rfl, hJ, hS, hE, hE2⟩; have HJ := Aside0.mk hJ; have HSF := Aside0.mk hS.failed; have HMD := Aside0.mk hE; have HMO := Aside0.mk hE2; clear hJ hS hE hE2))
              | ((go_at_call 35; (with_reducible refine (made_any (o := o) (tk := tk) (tb := tb) (mt := mt) (rt := rt) ((HE.out.push #[.int .i64 0, .slice none 0 0, .slice none 0 0, .bool false] 24).bswap).drew HT.out HI.out HB0.out.1 HB0.out.2.1 HB0.out.2.2.1 HO.out HTK.out HTB.out HMT.out HRT.out).mono ?_); rintro e w_m ⟨C0, C1, q0, q1, k0, k1, fl', bg', ch', s', c', rfl, hJ, hS, hE, hE2⟩; have HJ := Aside0.mk hJ; have HSF := Aside0.mk hS.failed; have HMD := Aside0.mk hE.bswap; have HMO := Aside0.mk hE2.bswap; clear hJ hS hE hE2; (have y0_ : World.cell? _ ⟨_, 0, none⟩ = some (.int .i64 0) := HMD.out.at_ 0 0 rfl rfl); (have y1_ : World.cell? _ ⟨_, 1, none⟩ = some (.slice none 0 0) := HMD.out.at_ 0 1 rfl rfl); (have y2_ : World.cell? _ ⟨_, 2, none⟩ = some (.slice none 0 0) := HMD.out.at_ 0 2 rfl rfl); (have y3_ : World.cell? _ ⟨_, 3, none⟩ = some (.bool false) := HMD.out.at_ 0 3 rfl rfl); (have f0_ := HMD.out.fr_ 0 0 (cs := #[.int .i64 0, .slice none 0 0, .slice none 0 0, .bool false]) rfl); (have f1_ := HMD.out.fr_ 0 1 (cs := #[.int .i64 0, .slice none 0 0, .slice none 0 0, .bool false]) rfl); (have f2_ := HMD.out.fr_ 0 2 (cs := #[.int .i64 0, .slice none 0 0, .slice none 0 0, .bool false]) rfl); (have f3_ := HMD.out.fr_ 0 3 (cs := #[.int .i64 0, .slice none 0 0, .slice none 0 0, .bool false]) rfl))))
          all_goals (go_wp2_with fail; go_meet; first | exact ⟨_, _, _, _, _, _, _, _, _, _, _, _, rfl, rfl, HJ, HSF, ⟨⟨HMD.out.push #[.int .i64 t, .slice C0 k0.length q0, .slice C1 k1.length q1, .bool fl'] 24, (HMO.out.push #[.int .i64 t, .slice C0 k0.length q0, .slice C1 k1.length q1, .bool fl'] 24).row_ 0 rfl, (HMO.out.push #[.int .i64 t, .slice C0 k0.length q0, .slice C1 k1.length q1, .bool fl'] 24).row_ 1 rfl⟩⟩⟩ | exact ⟨_, _, _, _, _, _, _, _, _, _, _, _, rfl, rfl, HJ, HSF, ⟨⟨HMD.out.book4 (.int .i64 t) (.slice C0 k0.length q0) (.slice C1 k1.length q1) (.bool fl'), (HMO.out.book4 (.int .i64 t) (.slice C0 k0.length q0) (.slice C1 k1.length q1) (.bool fl')).row_ 0 rfl, (HMO.out.book4 (.int .i64 t) (.slice C0 k0.length q0) (.slice C1 k1.length q1) (.bool fl')).row_ 1 rfl⟩⟩⟩ | exact ⟨_, _, _, _, _, _, _, _, _, _, _, _, rfl, rfl, HJ, HSF, ⟨⟨(HMD.out.push #[.int .i64 0, .slice none 0 0, .slice none 0 0, .bool false] 24).book4 (.int .i64 t) (.slice C0 k0.length q0) (.slice C1 k1.length q1) (.bool fl'), ((HMO.out.push #[.int .i64 0, .slice none 0 0, .slice none 0 0, .bool false] 24).book4 (.int .i64 t) (.slice C0 k0.length q0) (.slice C1 k1.length q1) (.bool fl')).row_ 0 rfl, ((HMO.out.push #[.int .i64 0, .slice none 0 0, .slice none 0 0, .bool false] 24).book4 (.int .i64 t) (.slice C0 k0.length q0) (.slice C1 k1.length q1) (.bool fl')).row_ 1 rfl⟩⟩⟩)
      case rest =>
        as_aux_lemma =>
          clear HE p1_ q1_ hd1 HXM
          obtain ⟨g16, C0, C1, q0, q1, k0, k1, fl', bg', ch', s', c', rfl, rfl, HJ, HSF, HE⟩ := hcut
          have HCQ := Aside0.mk (show k0.length ≤ q0 ∧ k1.length ≤ q1 from ⟨(HE.out.env.cap_ 0 rfl).2, (HE.out.env.cap_ 1 rfl).2⟩)
          go_upto_region 12 with fail
          go_cut [88] (fun s0 wx => s0 = .bool false ∧ Aside0 (LX w (⟨g16, #[.int .i64 t, .slice C0 k0.length q0, .slice C1 k1.length q1, .bool fl'], 24⟩ :: ⟨gN, (ncells bg' ch' s' c'), 56⟩ :: ⟨g12, #[.int .i64 t, .slice A0_ l0.length p0, .slice A1_ l1.length p1, .bool fl], 24⟩ :: []) (⟨1, k38, 38, .slice C0 k0.length q0, k0⟩ :: ⟨2, k38, 38, .slice C1 k1.length q1, k1⟩ :: []) A0_ l0 A1_ l1 wx))
          case first =>
            as_aux_lemma =>
              have xg16_0 : wc.cell? ⟨g16, 0, none⟩ = some (.int .i64 t) := HE.out.at_ 0 0 rfl rfl
              have xg16_1 : wc.cell? ⟨g16, 1, none⟩ = some (.slice C0 k0.length q0) := HE.out.at_ 0 1 rfl rfl
              have xg16_2 : wc.cell? ⟨g16, 2, none⟩ = some (.slice C1 k1.length q1) := HE.out.at_ 0 2 rfl rfl
              have xg16_3 : wc.cell? ⟨g16, 3, none⟩ = some (.bool fl') := HE.out.at_ 0 3 rfl rfl
              go_wp2_with fail
              refine (ledger_Check.calls t C0 q0 k0 C1 q1 k1 fl' 0 _ (HE.out.row_ 0 rfl) HCQ.out.1 (HE.out.row_ 1 rfl) HCQ.out.2 (by unfold ledger_Check.f; rw [HJ.out.check]) (HE.out.env.tab HT.out)).mono ?_
              clear xg16_0 xg16_1 xg16_2 xg16_3
              rintro e w9 ⟨rfl, hB⟩
              have hE := HE.out.below hB
              clear HE hB
              have HE := Aside0.mk hE
              clear hE
              cases fl
              · skip
                have xg12_0 : w9.cell? ⟨g12, 0, none⟩ = some (.int .i64 t) := HE.out.at_ 2 0 rfl rfl
                have xg12_1 : w9.cell? ⟨g12, 1, none⟩ = some (.slice A0_ l0.length p0) := HE.out.at_ 2 1 rfl rfl
                have xg12_2 : w9.cell? ⟨g12, 2, none⟩ = some (.slice A1_ l1.length p1) := HE.out.at_ 2 2 rfl rfl
                have xg12_3 : w9.cell? ⟨g12, 3, none⟩ = some (.bool false) := HE.out.at_ 2 3 rfl rfl
                go_wp2_with fail
                go_meet
                exact ⟨rfl, HE⟩
              · obtain ⟨e0_, e1_, e2_⟩ := HSF.out rfl
                subst e0_ e1_ e2_
                have xg12_0 : w9.cell? ⟨g12, 0, none⟩ = some (.int .i64 t) := HE.out.at_ 2 0 rfl rfl
                have xg12_1 : w9.cell? ⟨g12, 1, none⟩ = some (.slice A0_ _ p0) := HE.out.at_ 2 1 rfl rfl
                have xg12_2 : w9.cell? ⟨g12, 2, none⟩ = some (.slice A1_ _ p1) := HE.out.at_ 2 2 rfl rfl
                have xg12_3 : w9.cell? ⟨g12, 3, none⟩ = some (.bool true) := HE.out.at_ 2 3 rfl rfl
                have xg16_0 : w9.cell? ⟨g16, 0, none⟩ = some (.int .i64 t) := HE.out.at_ 0 0 rfl rfl
                have xg16_1 : w9.cell? ⟨g16, 1, none⟩ = some (.slice C0 _ q0) := HE.out.at_ 0 1 rfl rfl
                have xg16_2 : w9.cell? ⟨g16, 2, none⟩ = some (.slice C1 _ q1) := HE.out.at_ 0 2 rfl rfl
                have xg16_3 : w9.cell? ⟨g16, 3, none⟩ = some (.bool true) := HE.out.at_ 0 3 rfl rfl
                go_wp2_with fail
                have q_ := winnowlaw19_same.calls 1000 t A0_ p0 _ A1_ p1 _ true t C0 q0 _ C1 q1 _ true true _ HE.out.old0 HCP.out.1 HE.out.old1 HCP.out.2 (HE.out.row_ 0 rfl) HCQ.out.1 (HE.out.row_ 1 rfl) HCQ.out.2 (eq_book t true _ _ (by have := HJ.out.n0; have := HB0.out; omega) (by have := HJ.out.n1; have := HB0.out; omega) 1000 (by have := HJ.out.n0; have := HB0.out; omega) (by have := HJ.out.n1; have := HB0.out; omega))
                refine q_.mono ?_
                clear xg12_0 xg12_1 xg12_2 xg12_3 xg16_0 xg16_1 xg16_2 xg16_3
                clear q_
                rintro e w10 ⟨rfl, hB⟩
                have hE := HE.out.below hB
                clear HE hB
                have HE := Aside0.mk hE
                clear hE
                go_wp2_with fail
                go_meet
                exact ⟨rfl, HE⟩
          case rest =>
            as_aux_lemma =>
              clear HE
              obtain ⟨rfl, HE⟩ := hcut
              go_upto_region 14 with fail
              have xg16_0 : wc.cell? ⟨g16, 0, none⟩ = some (.int .i64 t) := HE.out.at_ 0 0 rfl rfl
              have xg16_1 : wc.cell? ⟨g16, 1, none⟩ = some (.slice C0 k0.length q0) := HE.out.at_ 0 1 rfl rfl
              have xg16_2 : wc.cell? ⟨g16, 2, none⟩ = some (.slice C1 k1.length q1) := HE.out.at_ 0 2 rfl rfl
              have xg16_3 : wc.cell? ⟨g16, 3, none⟩ = some (.bool fl') := HE.out.at_ 0 3 rfl rfl
              have xg12_0 : wc.cell? ⟨g12, 0, none⟩ = some (.int .i64 t) := HE.out.at_ 2 0 rfl rfl
              have xg12_1 : wc.cell? ⟨g12, 1, none⟩ = some (.slice A0_ l0.length p0) := HE.out.at_ 2 1 rfl rfl
              have xg12_2 : wc.cell? ⟨g12, 2, none⟩ = some (.slice A1_ l1.length p1) := HE.out.at_ 2 2 rfl rfl
              have xg12_3 : wc.cell? ⟨g12, 3, none⟩ = some (.bool fl) := HE.out.at_ 2 3 rfl rfl
              have fg12_0 : wc.frozen? ⟨g12, 0, none⟩ = false := HE.out.fr_ 2 0 rfl
              have fg12_1 : wc.frozen? ⟨g12, 1, none⟩ = false := HE.out.fr_ 2 1 rfl
              have fg12_2 : wc.frozen? ⟨g12, 2, none⟩ = false := HE.out.fr_ 2 2 rfl
              have fg12_3 : wc.frozen? ⟨g12, 3, none⟩ = false := HE.out.fr_ 2 3 rfl
              have HE2 := Aside0.mk (HE.out.store12 (.int .i64 t) (.slice C0 k0.length q0) (.slice C1 k1.length q1) (.bool fl'))
              go_upto_region 15 with fail
              clear HE
              have hE := HE2.out
              generalize ((((wc.setCell ⟨g12, 0, none⟩ (.int .i64 t)).setCell ⟨g12, 1, none⟩ (.slice C0 k0.length q0)).setCell ⟨g12, 2, none⟩ (.slice C1 k1.length q1)).setCell ⟨g12, 3, none⟩ (.bool fl')) = w50 at hE ⊢
              clear xg16_0 xg16_1 xg16_2 xg16_3 xg12_0 xg12_1 xg12_2 xg12_3 fg12_0 fg12_1 fg12_2 fg12_3
              clear HE2
              have HE := Aside0.mk hE
              clear hE
              have HSM := Aside0.mk (HJ.out.small HB0.out.1 HB0.out.2.2.1)
              have xg12_0 : w50.cell? ⟨g12, 0, none⟩ = some (.int .i64 t) := HE.out.at_ 1 0 rfl rfl
              have xg12_1 : w50.cell? ⟨g12, 1, none⟩ = some (.slice C0 k0.length q0) := HE.out.at_ 1 1 rfl rfl
              have xg12_2 : w50.cell? ⟨g12, 2, none⟩ = some (.slice C1 k1.length q1) := HE.out.at_ 1 2 rfl rfl
              have xg12_3 : w50.cell? ⟨g12, 3, none⟩ = some (.bool fl') := HE.out.at_ 1 3 rfl rfl
              go_wp2_with fail
              refine (ledger_Begun.calls t C0 q0 k0 C1 q1 k1 fl' s' c' _ (HE.out.row_ 0 rfl) HCQ.out.1 (HE.out.row_ 1 rfl) HCQ.out.2 (by unfold ledger_Begun.f; rw [if_pos (small_of HJ.out.n0 HJ.out.n1 HB0.out.1 HB0.out.2.2.1), begun_eq HJ.out HB0.out.1 HB0.out.2.2.1]) (HE.out.tab HT.out)).mono ?_
              clear xg12_0 xg12_1 xg12_2 xg12_3
              rintro e w11 ⟨rfl, hB⟩
              have hE := HE.out.below hB
              clear HE hB
              have HE := Aside0.mk hE
              clear hE
              have w1_ : IntKind.i64.wrap ((m : Int) + (r : Int)) = (m : Int) + (r : Int) := by rw [IntKind.wrap_i64]; have := HB0.out; omega
              obtain ⟨z1, hz1⟩ : ∃ z, (m : Int) + (r : Int) + c' = z := ⟨_, rfl⟩
              have w2_ : IntKind.i64.wrap ((m : Int) + (r : Int) + c') = z1 := by rw [IntKind.wrap_i64]; have := HB0.out; have := HSM.out; omega
              have d1_ : decide (z1 < s') = false := decide_eq_false (by have := HSM.out; omega)
              have b1_ : (s' != s') = false := by simp
              have b2_ : (c' != c') = false := by simp
              have xs_ : w11.cell? ⟨gN, 544, none⟩ = some (.int .i64 s') := HE.out.at_ 0 544 rfl (ncells_s _ _ _ _)
              have xc_ : w11.cell? ⟨gN, 545, none⟩ = some (.int .i64 c') := HE.out.at_ 0 545 rfl (ncells_c _ _ _ _)
              clear hz1
              go_upto_region 18 with fail
              clear w2_ d1_ b1_ b2_ xs_ xc_ w1_
              go_wp2_with fail
              go_loopw [20, 21] (fun vf v wr => ∃ (k : Nat) (f : Bool), k ≤ m + r ∧ v = .int .i64 k ∧ vf = .bool f ∧ Aside0 (f = anyF t (k0 ++ k1) k) ∧ Aside0 (Env w (⟨gN, (ncells bg' ch' s' c'), 56⟩ :: ⟨g12, #[.int .i64 t, .slice C0 k0.length q0, .slice C1 k1.length q1, .bool fl'], 24⟩ :: []) (⟨1, k38, 38, .slice C0 k0.length q0, k0⟩ :: ⟨2, k38, 38, .slice C1 k1.length q1, k1⟩ :: []) wr)) (fun _ v _ => m + r - (intOf v).toNat)
              case atStart => exact ⟨0, false, Nat.zero_le _, rfl, rfl, ⟨rfl⟩, HE⟩
              case round =>
                clear HE
                obtain ⟨k, f, hk, rfl, rfl, HF, HE⟩ := hrel
                have w1_ : IntKind.i64.wrap ((m : Int) + (r : Int)) = (m : Int) + (r : Int) := by rw [IntKind.wrap_i64]; have := HB0.out; omega
                by_cases hlt2 : k < m + r
                · skip
                  have hd2 : decide ((k : Int) < (m : Int) + (r : Int)) = true := decide_eq_true (by omega)
                  obtain ⟨q, f1, hq1, hq2, ht16, hNC, hAN⟩ := HJ.out.each k hlt2
                  have HQ := Aside0.mk (show (q : Int) ≤ t ∧ f1 ≤ t ∧ t ≤ 16 from ⟨hq1, hq2, ht16⟩)
                  have HNC := Aside0.mk hNC
                  have HAN := Aside0.mk hAN
                  have HKK := Aside0.mk (show k < 12 by have := HB0.out; omega)
                  have HWK := Aside0.mk (show wrap64 ((k : Int) + 1) = ((k + 1 : Nat) : Int) by have := HB0.out; unfold wrap64; omega)
                  clear hq1 hq2 ht16 hNC hAN
                  go_wp2_with fail
                  go_loopw [22, 23] (fun vs v wr => ∃ (a n : Nat), 1 ≤ a ∧ a ≤ 17 ∧ v = .int .i64 a ∧ vs = .int .i64 n ∧ Aside0 (n = min (a - 1) q) ∧ Aside0 (Env w (⟨gN, (ncells bg' ch' s' c'), 56⟩ :: ⟨g12, #[.int .i64 t, .slice C0 k0.length q0, .slice C1 k1.length q1, .bool fl'], 24⟩ :: []) (⟨1, k38, 38, .slice C0 k0.length q0, k0⟩ :: ⟨2, k38, 38, .slice C1 k1.length q1, k1⟩ :: []) wr)) (fun _ v _ => 17 - (intOf v).toNat)
                  case atStart => exact ⟨1, 0, by omega, by omega, rfl, rfl, ⟨by omega⟩, HE⟩
                  case round =>
                    clear HE
                    obtain ⟨a, n, ha1, ha2, rfl, rfl, HN, HE⟩ := hrel
                    by_cases hlt3 : a < 17
                    · skip
                      have hd3 : decide ((a : Int) < 17) = true := decide_eq_true (by omega)
                      have pk1 : ((0 : Int) ≤ (k : Int)) = True := eq_true (by omega)
                      have pk2 : ((k : Int) < 16) = True := eq_true (by have := HKK.out; omega)
                      have pa1 : ((0 : Int) ≤ (a : Int)) = True := eq_true (by omega)
                      have pa2 : ((a : Int) < 17) = True := eq_true (by omega)
                      obtain ⟨hb1, hc1⟩ := HNC.out a ha1 (by omega)
                      have xb_ : wr.cell? ⟨gN, k * 17 + a, none⟩ = some (.bool (bg' (k * 17 + a))) := HE.out.at_ 0 (k * 17 + a) rfl (ncells_bg _ _ _ _ _ (by have := HKK.out; omega))
                      have xc_ : wr.cell? ⟨gN, 272 + k * 17 + a, none⟩ = some (.bool (ch' (k * 17 + a))) := by rw [Nat.add_assoc]; exact HE.out.at_ 0 (272 + (k * 17 + a)) rfl (ncells_ch _ _ _ _ _ (by have := HKK.out; omega))
                      rw [hb1] at xb_
                      rw [hc1] at xc_
                      have HWA := Aside0.mk (show wrap64 ((a : Int) + 1) = ((a + 1 : Nat) : Int) by unfold wrap64; omega)
                      clear hb1 hc1
                      by_cases hq : a ≤ q
                      · rw [decide_eq_true hq] at xc_
                        obtain ⟨n', hn'⟩ : ∃ x : Nat, n + 1 = x := ⟨_, rfl⟩
                        have w3_ : IntKind.i64.wrap ((n : Int) + 1) = (n' : Int) := by rw [IntKind.wrap_i64]; have := HN.out; omega
                        have HN' := Aside0.mk hn'
                        clear hn'
                        by_cases hf1 : (a : Int) ≤ f1
                        · rw [decide_eq_true hf1] at xb_
                          have d3_ : decide (t < (a : Int)) = false := decide_eq_false (by have := HQ.out; omega)
                          go_wp2_with fail
                          go_roundw
                          case rel => exact ⟨a + 1, n', by omega, by omega, by first | rw [HWA.out] | rfl, rfl, ⟨by have := HN.out; have := HN'.out; omega⟩, HE⟩
                          case measure => first | (rw [HWA.out]; simp only [intOf, Int.toNat_natCast]; omega) | (simp [intOf]; omega)
                        · rw [decide_eq_false hf1] at xb_
                          go_wp2_with fail
                          go_roundw
                          case rel => exact ⟨a + 1, n', by omega, by omega, by first | rw [HWA.out] | rfl, rfl, ⟨by have := HN.out; have := HN'.out; omega⟩, HE⟩
                          case measure => first | (rw [HWA.out]; simp only [intOf, Int.toNat_natCast]; omega) | (simp [intOf]; omega)
                      · rw [decide_eq_false hq] at xc_
                        by_cases hf1 : (a : Int) ≤ f1
                        · rw [decide_eq_true hf1] at xb_
                          have d3_ : decide (t < (a : Int)) = false := decide_eq_false (by have := HQ.out; omega)
                          go_wp2_with fail
                          go_roundw
                          case rel => exact ⟨a + 1, n, by omega, by omega, by first | rw [HWA.out] | rfl, rfl, ⟨by have := HN.out; omega⟩, HE⟩
                          case measure => first | (rw [HWA.out]; simp only [intOf, Int.toNat_natCast]; omega) | (simp [intOf]; omega)
                        · rw [decide_eq_false hf1] at xb_
                          go_wp2_with fail
                          go_roundw
                          case rel => exact ⟨a + 1, n, by omega, by omega, by first | rw [HWA.out] | rfl, rfl, ⟨by have := HN.out; omega⟩, HE⟩
                          case measure => first | (rw [HWA.out]; simp only [intOf, Int.toNat_natCast]; omega) | (simp [intOf]; omega)
                    · obtain rfl : a = 17 := by omega
                      obtain rfl : n = q := by have := HN.out; have := HQ.out; omega
                      obtain ⟨bq, hbq⟩ : ∃ b : Bool, ((n : Int) == t) = b := ⟨_, rfl⟩
                      have HBQ := Aside0.mk hbq
                      cases f
                      · skip
                        go_wp2_with fail
                        go_roundw
                        case rel => exact ⟨k + 1, bq, by omega, by first | rw [HWK.out] | rfl, rfl, ⟨by rw [HAN.out, ← HF.out, ← HBQ.out]; rw [Bool.false_or]; rfl⟩, HE⟩
                        case measure => first | (rw [HWK.out]; simp only [intOf, Int.toNat_natCast]; omega) | (simp [intOf]; omega)
                      · skip
                        go_wp2_with fail
                        go_roundw
                        case rel => exact ⟨k + 1, true, by omega, by first | rw [HWK.out] | rfl, rfl, ⟨by rw [HAN.out, ← HF.out]; rfl⟩, HE⟩
                        case measure => first | (rw [HWK.out]; simp only [intOf, Int.toNat_natCast]; omega) | (simp [intOf]; omega)
                · obtain rfl : k = m + r := by omega
                  have hd2 : decide (((m + r : Nat) : Int) < (m : Int) + (r : Int)) = false := decide_eq_false (by omega)
                  have hff : f = fl' := HF.out.trans (anyF_all HJ.out)
                  subst hff
                  have HFX := Aside0.mk HJ.out.check
                  cases f
                  · skip
                    have xg12_0 : wr.cell? ⟨g12, 0, none⟩ = some (.int .i64 t) := HE.out.at_ 1 0 rfl rfl
                    have xg12_1 : wr.cell? ⟨g12, 1, none⟩ = some (.slice C0 k0.length q0) := HE.out.at_ 1 1 rfl rfl
                    have xg12_2 : wr.cell? ⟨g12, 2, none⟩ = some (.slice C1 k1.length q1) := HE.out.at_ 1 2 rfl rfl
                    have xg12_3 : wr.cell? ⟨g12, 3, none⟩ = some (.bool false) := HE.out.at_ 1 3 rfl rfl
                    go_wp2_with fail
                    go_roundw
                    case rel => exact ⟨i + 1, by omega, by first | rw [HWI.out] | rfl, ⟨_, _, _, _, _, _, _, _, _, _, _, HJ.out, HE.out⟩⟩
                    case measure => first | (rw [HWI.out]; simp only [intOf, Int.toNat_natCast]; omega) | (simp [intOf]; omega)
                  · skip
                    have xg12_0 : wr.cell? ⟨g12, 0, none⟩ = some (.int .i64 t) := HE.out.at_ 1 0 rfl rfl
                    have xg12_1 : wr.cell? ⟨g12, 1, none⟩ = some (.slice C0 k0.length q0) := HE.out.at_ 1 1 rfl rfl
                    have xg12_2 : wr.cell? ⟨g12, 2, none⟩ = some (.slice C1 k1.length q1) := HE.out.at_ 1 2 rfl rfl
                    have xg12_3 : wr.cell? ⟨g12, 3, none⟩ = some (.bool true) := HE.out.at_ 1 3 rfl rfl
                    go_wp2_with fail
                    refine (ledger_Over.calls 70001 t C0 q0 k0 C1 q1 k1 true true _ (HE.out.row_ 0 rfl) HCQ.out.1 (HE.out.row_ 1 rfl) HCQ.out.2 (by rw [over_eq 70001 t k0 k1 true (by omega), failed_over HFX.out]) (HE.out.tab HT.out)).mono ?_
                    clear xg12_0 xg12_1 xg12_2 xg12_3
                    rintro e w12 ⟨rfl, hB⟩
                    have hE := HE.out.below hB
                    clear HE hB
                    have HE := Aside0.mk hE
                    clear hE
                    have xg12_0 : w12.cell? ⟨g12, 0, none⟩ = some (.int .i64 t) := HE.out.at_ 1 0 rfl rfl
                    have xg12_1 : w12.cell? ⟨g12, 1, none⟩ = some (.slice C0 k0.length q0) := HE.out.at_ 1 1 rfl rfl
                    have xg12_2 : w12.cell? ⟨g12, 2, none⟩ = some (.slice C1 k1.length q1) := HE.out.at_ 1 2 rfl rfl
                    have xg12_3 : w12.cell? ⟨g12, 3, none⟩ = some (.bool true) := HE.out.at_ 1 3 rfl rfl
                    go_wp2_with fail
                    refine (ledger_Ready.calls 70001 t C0 q0 k0 C1 q1 k1 true [] _ (HE.out.row_ 0 rfl) HCQ.out.1 (HE.out.row_ 1 rfl) HCQ.out.2 (by rw [ready_eq 70001 t k0 k1 true (by omega), failed_ready]) (HE.out.tab HT.out)).mono ?_
                    clear xg12_0 xg12_1 xg12_2 xg12_3
                    rintro e w13 ⟨v0, rfl, s0, hB⟩
                    obtain ⟨D3, d3, rfl⟩ := Kd.R_slice s0
                    have hE := HE.out.below hB
                    clear HE hB s0
                    have HE := Aside0.mk hE
                    clear hE
                    go_wp2_with fail
                    go_roundw
                    case rel => exact ⟨i + 1, by omega, by first | rw [HWI.out] | rfl, ⟨_, _, _, _, _, _, _, _, _, _, _, HJ.out, HE.out⟩⟩
                    case measure => first | (rw [HWI.out]; simp only [intOf, Int.toNat_natCast]; omega) | (simp [intOf]; omega)
    · obtain rfl : i = l.length := by omega
      go_wp2_with fail
      go_ret
      exact ⟨rfl, HE.out.out⟩
/-- The law as a function with a contract: true of whatever is not too long. -/
def winnowlaw19_LedgerPaid.f (a0 a1 a2 : Int) (l3 : List S58) : Option Bool := if l3.length ≤ 4400000000000 then some true else none
theorem winnowlaw19_LedgerPaid.calls (a0 : Int) (a1 : Int) (a2 : Int) (A3 : Option Addr) (c3 : Nat) (l3 : List S58) (r : Bool) (w : World) (hr3 : Kd.C k58 w A3 l3.length l3) (hc3 : l3.length ≤ c3) (h : winnowlaw19_LedgerPaid.f a0 a1 a2 l3 = some r) (hTAB_ : Tab w) :
    Calls Tryd.prog 8 #[.int .i64 a0, .int .i64 a1, .int .i64 a2, .slice A3 l3.length c3] w fun e w' => e = .returned (.bool r) ∧ Below w.heap.size w w' := by
  unfold winnowlaw19_LedgerPaid.f at h
  by_cases hs : l3.length ≤ 4400000000000
  · rw [if_pos hs] at h
    injection h with h
    subst h
    have e0 := fewP_in a0 0 6 (by omega)
    have e1 := fewP_in a1 1 6 (by omega)
    have e2 := fewP_in a2 1 5 (by omega)
    have f0 := few_eq a0 0 6 (by omega) (by omega) (by omega)
    have f1 := few_eq a1 1 6 (by omega) (by omega) (by omega)
    have f2 := few_eq a2 1 5 (by omega) (by omega) (by omega)
    obtain ⟨m, hm⟩ : ∃ m : Nat, fewP a0 0 6 = m := ⟨(fewP a0 0 6).toNat, by omega⟩
    obtain ⟨r, hr⟩ : ∃ r : Nat, fewP a1 1 6 = r := ⟨(fewP a1 1 6).toNat, by omega⟩
    rw [hm] at e0 f0
    rw [hr] at e1 f1
    exact LedgerPaid_walk a0 a1 a2 A3 c3 l3 m r _ w hr3 hc3 hs hTAB_ f0 f1 f2 ⟨by omega, by omega, by omega, by omega, by omega⟩
  · rw [if_neg hs] at h
    cases h
end Go.Proofs.YtponmfnegdlppaaDoor.P

end
