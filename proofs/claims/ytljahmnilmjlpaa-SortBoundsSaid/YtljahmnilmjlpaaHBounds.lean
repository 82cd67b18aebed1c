/- The walk of the law on budgets: records one by one into a buffer, with a Take whenever there is no room. -/
import Derived.Test.YtljahmnilmjlpaaBoundsSt
import Derived.Outline
namespace Go.Proofs.Ytljahmnilmjlpaa.P
open Go.RowKit Go.Proofs.YtljahmnilmjlpaaW.PrintWords Go.Proofs.YtljahmnilmjlpaaW.PrintLast Go.Proofs.YtljahmnilmjlpaaW.PrintMore Go.Proofs.Ytljahmnilmjlpaa.Hand
set_option linter.unusedVariables false
set_option linter.unusedSimpArgs false

theorem okR_seg {l pre seg : List S23} {i : Nat} (h : l.take i = pre ++ seg) (hx : okR l) : okR pre ∧ okR seg :=
  ⟨fun x m => hx x (List.mem_of_mem_take (by rw [h]; exact List.mem_append_left _ m)), fun x m => hx x (List.mem_of_mem_take (by rw [h]; exact List.mem_append_right _ m))⟩
theorem isort_mem' (l : List S23) (x : S23) (h : x ∈ St.isort leR l) : x ∈ l := isort_mem l x h
theorem len_seg {l pre seg : List S23} {i : Nat} (h : l.take i = pre ++ seg) : pre.length + seg.length ≤ l.length := by
  have := congrArg List.length h
  rw [List.length_take, List.length_append] at this
  omega
theorem merge_seg {l pre seg : List S23} {i : Nat} (h : l.take i = pre ++ seg) (hx : okR l) (hl : l.length ≤ 3518437208780) : ∃ k, winnowlaw10_merged.f k (St.isort leR pre) (St.isort leR seg) = some (St.isort leR (pre ++ seg)) := by
  have hs := len_seg h
  refine ⟨2 * ((St.isort leR pre).length + (St.isort leR seg).length) + 140737488351300 + 1, ?_⟩
  rw [mg_eq (St.isort leR pre) (St.isort leR seg) (fun x m => (okR_seg h hx).1 x (isort_mem _ x m)) (by rw [St.isort_length]; omega) (by rw [St.isort_length]; omega) (by rw [St.isort_length, St.isort_length]; omega) _ (Nat.lt_succ_self _), St.merge_isort ordR]
theorem seg_small {l pre seg : List S23} {i : Nat} {M : Int} (h : l.take i = pre ++ seg) (hx : okR l) (hx2 : ∀ x ∈ l, x.f2.size ≤ 140737488351232) (hb : csum seg ≤ M ∨ seg.length ≤ 1) (hM : M ≤ 4255) : csum seg ≤ 562949953421312 := by
  rcases hb with hb | hb
  · omega
  · cases seg with
    | nil => unfold csum; simp
    | cons y t =>
      obtain rfl : t = [] := by simp at hb; exact hb
      have hm : y ∈ l := List.mem_of_mem_take (by rw [h]; exact List.mem_append_right _ List.mem_cons_self)
      have h1 := hx y hm
      have h2 := hx2 y hm
      unfold csum cst
      simp only [List.map_cons, List.map_nil, List.sum_cons, List.sum_nil]
      omega
set_option maxHeartbeats 30000000 in
set_option maxRecDepth 100000 in
theorem SortBounds_walk (bud : Int) (A0 : Option Addr) (c0 : Nat) (l : List S23) (w : World) (hr0 : Kd.C k23 w A0 l.length l) (hc0 : l.length ≤ c0) (hl : l.length ≤ 3518437208780) (hx : okR l) (hx2 : ∀ x ∈ l, x.f2.size ≤ 140737488351232) :
    Calls Try.prog 7 #[.int .i64 bud, .slice A0 l.length c0] w fun e w' => e = .returned (.bool true) ∧ Below w.heap.size w w' := by
  have HR := Aside0.mk hr0
  have HC := Aside0.mk hc0
  have HL := Aside0.mk hl
  have HX := Aside0.mk hx
  have HX2 := Aside0.mk hx2
  have HS := Aside0.mk (Sort_any l (by omega) hx)
  obtain ⟨m0, hm0⟩ : ∃ m, bud.tmod 4000 = m := ⟨_, rfl⟩
  have b1 : m0 < 4000 := by rw [← hm0]; exact Int.tmod_lt_of_pos _ (by decide)
  have b2 : -4000 < m0 := by rw [← hm0]; exact Int.lt_tmod_of_pos _ (by decide)
  clear hr0 hc0 hl hx hx2
  by_cases hneg : m0 < 0
  · have d0 : decide (m0 < 0) = true := decide_eq_true hneg
    obtain ⟨n0, hn0⟩ : ∃ n, -m0 = n := ⟨_, rfl⟩
    obtain ⟨M, hMe⟩ : ∃ M, n0 + 256 = M := ⟨_, rfl⟩
    have hw1 : IntKind.i64.wrap (-m0) = n0 := by rw [IntKind.wrap_i64]; omega
    have hw2 : IntKind.i64.wrap (n0 + 256) = M := by rw [IntKind.wrap_i64]; omega
    have hM : 256 ≤ M ∧ M ≤ 4255 := by omega
    clear hn0 hMe

    clear hneg b1 b2
    have HM := Aside0.mk hM
    clear hM
    go_enter Try.func7, Try.ntmps7
    go_wp2_with fail
    refine (BNew w _ M (fun _ => False) HM.out.1 (by have := HM.out.2; omega) (Below.refl _ _)).mono ?_
    rintro e w1 ⟨g, rfl, hBF, hB1⟩
    obtain ⟨col, hST⟩ := ST.start hBF hB1
    have HST := Aside0.mk hST
    clear hBF hB1 hST d0 hw1 hw2 hm0
    go_wp2_with fail
    go_loopw [8, 9, 10, 11] (fun va vs vn vi wr => ∃ (i : Nat) (col : Nat → Nat) (seg pre : List S23) (s n : Int), i ≤ l.length ∧ vs = .int .i64 s ∧ vn = .int .i64 n ∧ vi = .int .i64 i ∧ Aside0 (s = csum seg ∧ n = (seg.length : Int)) ∧ Aside0 (l.take i = pre ++ seg) ∧ Aside0 (csum seg ≤ M ∨ seg.length ≤ 1) ∧ Aside0 (ST w wr g M col seg va (St.isort leR pre))) (fun _ _ _ v _ => l.length - (intOf v).toNat)
    case atStart => exact ⟨0, col, [], [], 0, 0, Nat.zero_le _, rfl, rfl, rfl, ⟨rfl, rfl⟩, ⟨rfl⟩, ⟨.inr (Nat.zero_le _)⟩, HST⟩
    case round =>
      clear HST
      obtain ⟨i, col, seg, pre, s, n, hi, rfl, rfl, rfl, HSN, HTK, HBD, HST⟩ := hrel
      obtain ⟨Aa, ca, rfl⟩ := Kd.R_slice HST.out.2.2.1
      by_cases hlt : i < l.length
      · have hd1 : decide ((i : Int) < (l.length : Int)) = true := by simp; omega
        have p1 : (0 : Int) ≤ (i : Int) := Int.natCast_nonneg i
        have q1 : (i : Int) < (l.length : Int) := Int.ofNat_lt.2 hlt
        obtain ⟨ad, e, hx0, hx1, hx2⟩ := at_T23 HR.out i p1 q1
        subst e
        rw [rd23_nat' l i hlt] at hx0 hx1 hx2
        rw [Int.toNat_natCast] at hx0 hx1 hx2
        have HK0 := Aside0.mk (show ∀ W : World, Below w.heap.size w W → (W.cell? (ad.add (i * 3)) = some (.int .i64 l[i].f0) ∧ W.cell? ⟨(ad.add (i * 3)).block, (ad.add (i * 3)).off + 1, none⟩ = some (.string l[i].f1) ∧ W.cell? ⟨(ad.add (i * 3)).block, (ad.add (i * 3)).off + 2, none⟩ = some (.string l[i].f2)) from
          fun W hb => ⟨cell_kept hx0 (Kept.of_below hb (fun _ => False)) (fun h => h), cell_kept hx1 (Kept.of_below hb (fun _ => False)) (fun h => h), cell_kept hx2 (Kept.of_below hb (fun _ => False)) (fun h => h)⟩)
        have HSZ := Aside0.mk (show l[i].f1.size ≤ 140737488351232 ∧ l[i].f2.size ≤ 140737488351232 from ⟨HX.out _ (List.getElem_mem hlt), HX2.out _ (List.getElem_mem hlt)⟩)
        have HTS := Aside0.mk (show l.take (i + 1) = (pre ++ seg) ++ [l[i]] by rw [List.take_succ_eq_append_getElem hlt, HTK.out])
        have HSL := Aside0.mk (len_seg HTK.out)
        have HOK := Aside0.mk (okR_seg HTK.out HX.out)
        have HMG := Aside0.mk (merge_seg HTK.out HX.out HL.out)
        replace p1 := eq_true p1
        replace q1 := eq_true q1
        clear hx0 hx1 hx2
        generalize l[i] = x at HK0 HSZ HTS
        have hX : x.f1.size + x.f2.size ≤ 281474976710656 := by have := HSZ.out; omega
        obtain ⟨q0, hq0⟩ : ∃ q, (x.f1.size : Int) + (x.f2.size : Int) = q := ⟨_, rfl⟩
        obtain ⟨c, hc⟩ : ∃ c, (cst x : Int) = c := ⟨_, rfl⟩
        have hqr : 0 ≤ q0 ∧ q0 ≤ 281474976710656 ∧ c = q0 + 32 := by unfold cst at hc; omega
        have w1 : IntKind.i64.wrap ((x.f1.size : Int) + (x.f2.size : Int)) = q0 := by rw [IntKind.wrap_i64]; omega
        have w2 : IntKind.i64.wrap (q0 + 32) = c := by rw [IntKind.wrap_i64]; omega
        have hss := csum_nonneg seg
        have hsn := HSN.out
        have hseg32 : csum seg ≤ 562949953421312 := seg_small HTK.out HX.out HX2.out HBD.out (by have := HM.out; omega)
        have hwi : wrap64 ((i : Int) + 1) = ((i + 1 : Nat) : Int) := by (have := HL.out; unfold wrap64; omega)
        have HWI := Aside0.mk hwi
        have HXX := Aside0.mk hX
        have HQ := Aside0.mk hqr
        have HCC := Aside0.mk hc
        have hsl := HSL.out
        have hll := HL.out
        have hmm := HM.out
        by_cases hz : seg.length = 0
        · obtain rfl := List.eq_nil_of_length_eq_zero hz
          have e1 : s = 0 := hsn.1
          have e2 : n = 0 := hsn.2
          subst e1 e2
          clear hss hsn hseg32 hz hX hqr hc hwi hsl hll hmm hq0
          obtain ⟨f1, f2, f3⟩ := HK0.out wr HST.out.2.2.2
          go_wp2_with fail
          go_region
          go_wp2_with fail
          clear f1 f2 f3
          refine (HST.out.drew.addOne x HXX.out).mono ?_
          rintro e w2' ⟨rfl, col2, hS2⟩
          have HS2 := Aside0.mk hS2
          clear hS2 HST
          by_cases hg : M < c
          · have d5 : decide (M < c) = true := decide_eq_true hg
            clear hg
            have w5 : IntKind.i64.wrap (0 + c) = c := by rw [IntKind.wrap_i64]; have := HQ.out; omega
            have w6 : IntKind.i64.wrap c = c := by rw [IntKind.wrap_i64]; have := HQ.out; omega
            have HE1 := Aside0.mk (show c = csum ([] ++ [x]) by rw [csum_add]; unfold csum; simp only [List.map_nil, List.sum_nil]; have := HCC.out; omega)
            have HE2 := Aside0.mk (show (1 : Int) = ((([] : List S23) ++ [x]).length : Int) from rfl)
            go_wp2_with fail
            refine (HS2.out.used c HE1.out).mono ?_
            rintro e w8' ⟨rfl, hB⟩
            have HS3 := Aside0.mk (HS2.out.below hB)
            clear hB HS2
            go_wp2_with fail
            refine (HS3.out.len 1 HE2.out).mono ?_
            rintro e w9' ⟨rfl, hB⟩
            have HS4 := Aside0.mk (HS3.out.below hB)
            clear hB HS3
            go_wp2_with fail
            go_roundw
            case rel => exact ⟨i + 1, _, [] ++ [x], pre, c, 1, by omega, rfl, rfl, by rw [HWI.out], ⟨HE1.out, HE2.out⟩, ⟨by rw [HTS.out]; simp⟩, ⟨.inr (Nat.le_refl _)⟩, ⟨by first | exact HS4.out | exact HS4.out.drew⟩⟩
            case measure => rw [HWI.out]; simp [intOf]; omega
          · have d5 : decide (M < c) = false := decide_eq_false hg
            clear hg
            have w5 : IntKind.i64.wrap (0 + c) = c := by rw [IntKind.wrap_i64]; have := HQ.out; omega
            have w6 : IntKind.i64.wrap c = c := by rw [IntKind.wrap_i64]; have := HQ.out; omega
            have HE1 := Aside0.mk (show c = csum ([] ++ [x]) by rw [csum_add]; unfold csum; simp only [List.map_nil, List.sum_nil]; have := HCC.out; omega)
            have HE2 := Aside0.mk (show (1 : Int) = ((([] : List S23) ++ [x]).length : Int) from rfl)
            go_wp2_with fail
            refine (HS2.out.used c HE1.out).mono ?_
            rintro e w8' ⟨rfl, hB⟩
            have HS3 := Aside0.mk (HS2.out.below hB)
            clear hB HS2
            go_wp2_with fail
            refine (HS3.out.len 1 HE2.out).mono ?_
            rintro e w9' ⟨rfl, hB⟩
            have HS4 := Aside0.mk (HS3.out.below hB)
            clear hB HS3
            go_wp2_with fail
            go_roundw
            case rel => exact ⟨i + 1, _, [] ++ [x], pre, c, 1, by omega, rfl, rfl, by rw [HWI.out], ⟨HE1.out, HE2.out⟩, ⟨by rw [HTS.out]; simp⟩, ⟨.inr (Nat.le_refl _)⟩, ⟨by first | exact HS4.out | exact HS4.out.drew⟩⟩
            case measure => rw [HWI.out]; simp [intOf]; omega
        · by_cases hfit : csum seg + cst x ≤ M
          · obtain ⟨s2, hs2⟩ : ∃ z, s + c = z := ⟨_, rfl⟩
            obtain ⟨n2, hn2⟩ : ∃ z, n + 1 = z := ⟨_, rfl⟩
            have w3 : IntKind.i64.wrap (s + c) = s2 := by rw [IntKind.wrap_i64]; omega
            have w4 : IntKind.i64.wrap (n + 1) = n2 := by rw [IntKind.wrap_i64]; omega
            have d3 : decide (M < s2) = false := decide_eq_false (by omega)
            have HS2E := Aside0.mk (show s2 = csum (seg ++ [x]) by rw [csum_add]; omega)
            have HN2E := Aside0.mk (show n2 = ((seg ++ [x]).length : Int) by rw [List.length_append, List.length_singleton]; omega)
            have HFIT := Aside0.mk hfit
            have HZ := Aside0.mk (show 0 < seg.length by omega)
            clear hss hsn hseg32 hz hX hqr hc hwi hsl hll hmm hfit hs2 hn2 hq0
            obtain ⟨f1, f2, f3⟩ := HK0.out wr HST.out.2.2.2
            go_wp2_with fail
            go_region
            go_wp2_with fail
            clear f1 f2 f3
            refine (HST.out.drew.addMore x HXX.out (by have := HSL.out; have := HL.out; omega) (by have := HM.out; omega) HZ.out HFIT.out).mono ?_
            rintro e w2' ⟨rfl, col2, hS2⟩
            have HST2 := Aside0.mk hS2
            clear hS2 HST
            go_wp2_with fail
            refine (HST2.out.used s2 HS2E.out).mono ?_
            rintro e w3' ⟨rfl, hB⟩
            have HST3 := Aside0.mk (HST2.out.below hB)
            clear hB HST2
            go_wp2_with fail
            refine (HST3.out.len n2 HN2E.out).mono ?_
            rintro e w4' ⟨rfl, hB⟩
            have HST4 := Aside0.mk (HST3.out.below hB)
            clear hB HST3
            go_wp2_with fail
            go_roundw
            case rel => exact ⟨i + 1, _, seg ++ [x], pre, s2, n2, by omega, rfl, rfl, by rw [HWI.out], ⟨HS2E.out, HN2E.out⟩, ⟨by rw [HTS.out, List.append_assoc]⟩, ⟨.inl (by rw [csum_add]; exact HFIT.out)⟩, ⟨by first | exact HST4.out | exact HST4.out.drew⟩⟩
            case measure => rw [HWI.out]; simp [intOf]; omega
          · obtain ⟨s2, hs2⟩ : ∃ z, s + c = z := ⟨_, rfl⟩
            have w3 : IntKind.i64.wrap (s + c) = s2 := by rw [IntKind.wrap_i64]; omega
            have d3 : decide (s2 ≤ M) = false := decide_eq_false (by omega)
            have d4 : (n == 0) = false := by simp; omega
            have HFIT := Aside0.mk (show M < csum seg + cst x by omega)
            have HZ := Aside0.mk (show 0 < seg.length by omega)
            have HB32 := Aside0.mk hseg32
            clear hss hsn hseg32 hz hX hqr hc hwi hsl hll hmm hfit hs2 hq0
            obtain ⟨f1, f2, f3⟩ := HK0.out wr HST.out.2.2.2
            go_wp2_with fail
            go_region
            go_wp2_with fail
            clear f1 f2 f3
            refine (HST.out.drew.addFull x HXX.out HZ.out HB32.out HFIT.out).mono ?_
            rintro e w2' ⟨rfl, hS2⟩
            have HST2 := Aside0.mk hS2
            clear hS2 HST
            go_wp2_with fail
            refine (HST2.out.take (by have := HSL.out; have := HL.out; omega) HOK.out.2).mono ?_
            rintro e w3' ⟨v, rfl, hv, hS3⟩
            obtain ⟨Av, cv, rfl, hcv, hCv⟩ := Kd.R_reads hv
            obtain ⟨Aw, cw, ew, hca, hCa⟩ := Kd.R_reads hS3.2.2.1
            obtain ⟨kk, hkk⟩ := HMG.out
            have HST3 := Aside0.mk hS3
            have HMC := Aside0.mk (winnowlaw10_merged.calls kk Aw cw (St.isort leR pre) Av cv (St.isort leR seg) _ w3' hCa hca hCv hcv hkk)
            rw [← ew] at HMC
            clear hS3 hv hcv hCv hca hCa hkk ew
            go_wp2_with fail
            refine HMC.out.mono ?_
            rintro e w4' ⟨vm, rfl, hvm, hB⟩
            obtain ⟨col4, hS4⟩ := HST3.out.merged hB hvm
            have HST4 := Aside0.mk hS4
            clear hvm hB hS4 HMC HST3
            go_wp2_with fail
            refine (HST4.out.len 0 rfl).mono ?_
            rintro e w5' ⟨rfl, hB⟩
            have HST5 := Aside0.mk (HST4.out.below hB)
            clear hB HST4
            go_wp2_with fail
            refine (HST5.out.used 0 rfl).mono ?_
            rintro e w6' ⟨rfl, hB⟩
            have HST6 := Aside0.mk (HST5.out.below hB)
            clear hB HST5
            obtain ⟨f1, f2, f3⟩ := HK0.out w6' HST6.out.2.2.2
            go_wp2_with fail
            clear f1 f2 f3
            refine (HST6.out.addOne x HXX.out).mono ?_
            rintro e w7' ⟨rfl, col2, hS2⟩
            have HS2 := Aside0.mk hS2
            clear hS2 HST6
            by_cases hg : M < c
            · have d5 : decide (M < c) = true := decide_eq_true hg
              clear hg
              have w5 : IntKind.i64.wrap (0 + c) = c := by rw [IntKind.wrap_i64]; have := HQ.out; omega
              have w6 : IntKind.i64.wrap c = c := by rw [IntKind.wrap_i64]; have := HQ.out; omega
              have HE1 := Aside0.mk (show c = csum ([] ++ [x]) by rw [csum_add]; unfold csum; simp only [List.map_nil, List.sum_nil]; have := HCC.out; omega)
              have HE2 := Aside0.mk (show (1 : Int) = ((([] : List S23) ++ [x]).length : Int) from rfl)
              go_wp2_with fail
              refine (HS2.out.used c HE1.out).mono ?_
              rintro e w8' ⟨rfl, hB⟩
              have HS3 := Aside0.mk (HS2.out.below hB)
              clear hB HS2
              go_wp2_with fail
              refine (HS3.out.len 1 HE2.out).mono ?_
              rintro e w9' ⟨rfl, hB⟩
              have HS4 := Aside0.mk (HS3.out.below hB)
              clear hB HS3
              go_wp2_with fail
              go_roundw
              case rel => exact ⟨i + 1, _, [] ++ [x], (pre ++ seg), c, 1, by omega, rfl, rfl, by rw [HWI.out], ⟨HE1.out, HE2.out⟩, ⟨by rw [HTS.out]; simp⟩, ⟨.inr (Nat.le_refl _)⟩, ⟨by first | exact HS4.out | exact HS4.out.drew⟩⟩
              case measure => rw [HWI.out]; simp [intOf]; omega
            · have d5 : decide (M < c) = false := decide_eq_false hg
              clear hg
              have w5 : IntKind.i64.wrap (0 + c) = c := by rw [IntKind.wrap_i64]; have := HQ.out; omega
              have w6 : IntKind.i64.wrap c = c := by rw [IntKind.wrap_i64]; have := HQ.out; omega
              have HE1 := Aside0.mk (show c = csum ([] ++ [x]) by rw [csum_add]; unfold csum; simp only [List.map_nil, List.sum_nil]; have := HCC.out; omega)
              have HE2 := Aside0.mk (show (1 : Int) = ((([] : List S23) ++ [x]).length : Int) from rfl)
              go_wp2_with fail
              refine (HS2.out.used c HE1.out).mono ?_
              rintro e w8' ⟨rfl, hB⟩
              have HS3 := Aside0.mk (HS2.out.below hB)
              clear hB HS2
              go_wp2_with fail
              refine (HS3.out.len 1 HE2.out).mono ?_
              rintro e w9' ⟨rfl, hB⟩
              have HS4 := Aside0.mk (HS3.out.below hB)
              clear hB HS3
              go_wp2_with fail
              go_roundw
              case rel => exact ⟨i + 1, _, [] ++ [x], (pre ++ seg), c, 1, by omega, rfl, rfl, by rw [HWI.out], ⟨HE1.out, HE2.out⟩, ⟨by rw [HTS.out]; simp⟩, ⟨.inr (Nat.le_refl _)⟩, ⟨by first | exact HS4.out | exact HS4.out.drew⟩⟩
              case measure => rw [HWI.out]; simp [intOf]; omega
      · have hi2 : i = l.length := by omega
        have hd1 : decide ((i : Int) < (l.length : Int)) = false := by simp; omega
        have hall : pre ++ seg = l := by rw [← HTK.out, List.take_of_length_le (by omega)]
        have hmg := merge_seg HTK.out HX.out HL.out
        rw [hall] at hmg
        have HMG := Aside0.mk hmg
        have HSL := Aside0.mk (len_seg HTK.out)
        have HOK := Aside0.mk (okR_seg HTK.out HX.out)
        have hlen : (St.isort leR l).length = l.length := St.isort_length l
        have HSM := Aside0.mk (same_eq (St.isort leR l) (by have := HL.out; omega) (l.length + 1) (by omega))
        clear hi2 hall hmg hlen
        go_wp2_with fail
        refine (HST.out.take (by have := HSL.out; have := HL.out; omega) HOK.out.2).mono ?_
        rintro e w3' ⟨v, rfl, hv, hS3⟩
        obtain ⟨Av, cv, rfl, hcv, hCv⟩ := Kd.R_reads hv
        obtain ⟨Aw, cw, ew, hca, hCa⟩ := Kd.R_reads hS3.2.2.1
        obtain ⟨kk, hkk⟩ := HMG.out
        have HST3 := Aside0.mk hS3
        have HMC := Aside0.mk (winnowlaw10_merged.calls kk Aw cw (St.isort leR pre) Av cv (St.isort leR seg) _ w3' hCa hca hCv hcv hkk)
        rw [← ew] at HMC
        clear hS3 hv hcv hCv hca hCa hkk ew
        go_wp2_with fail
        refine HMC.out.mono ?_
        rintro e w4' ⟨vm, rfl, hvm, hB⟩
        have HB4 := Aside0.mk (below_step HST3.out.2.2.2 hB)
        have HVM := Aside0.mk hvm
        clear hvm hB HMC HST3 HST
        go_wp2_with fail
        refine (sortbuf_Sort.calls A0 c0 l _ _ (Kd.C_below HR.out HB4.out) HC.out HS.out).mono ?_
        rintro e w5' ⟨vs, rfl, hvs, hB⟩
        obtain ⟨Am, cm, rfl, hcm, hCm⟩ := Kd.R_reads (Kd.R_below HVM.out hB)
        obtain ⟨As, cs, rfl, hcs, hCs⟩ := Kd.R_reads hvs
        have HB5 := Aside0.mk (below_step HB4.out hB)
        have HSR := Aside0.mk (winnowlaw10_sameRecords.calls (l.length + 1) Am cm (St.isort leR l) As cs (St.isort leR l) _ w5' hCm hcm hCs hcs HSM.out)
        clear hvs hB HVM hcm hCm hcs hCs
        go_wp2_with fail
        refine HSR.out.mono ?_
        rintro e w6' ⟨rfl, hD⟩
        have HB6 := Aside0.mk (below_step HB5.out hD.below)
        clear hD HSR
        go_wp2_with fail
        refine (winnowlaw10_works.calls true _ works_eq).mono ?_
        rintro e w7' ⟨rfl, hB⟩
        have HB7 := Aside0.mk (below_step HB6.out hB)
        clear hB
        go_wp2_with fail
        go_ret
        exact ⟨by first | rfl | (simp; done), HB7.out⟩
  · have d0 : decide (m0 < 0) = false := decide_eq_false hneg
    obtain ⟨M, hMe⟩ : ∃ M, m0 + 256 = M := ⟨_, rfl⟩
    have hw2 : IntKind.i64.wrap (m0 + 256) = M := by rw [IntKind.wrap_i64]; omega
    have hM : 256 ≤ M ∧ M ≤ 4255 := by omega
    clear hMe

    clear hneg b1 b2
    have HM := Aside0.mk hM
    clear hM
    go_enter Try.func7, Try.ntmps7
    go_wp2_with fail
    refine (BNew w _ M (fun _ => False) HM.out.1 (by have := HM.out.2; omega) (Below.refl _ _)).mono ?_
    rintro e w1 ⟨g, rfl, hBF, hB1⟩
    obtain ⟨col, hST⟩ := ST.start hBF hB1
    have HST := Aside0.mk hST
    clear hBF hB1 hST d0 hw2 hm0
    go_wp2_with fail
    go_loopw [8, 9, 10, 11] (fun va vs vn vi wr => ∃ (i : Nat) (col : Nat → Nat) (seg pre : List S23) (s n : Int), i ≤ l.length ∧ vs = .int .i64 s ∧ vn = .int .i64 n ∧ vi = .int .i64 i ∧ Aside0 (s = csum seg ∧ n = (seg.length : Int)) ∧ Aside0 (l.take i = pre ++ seg) ∧ Aside0 (csum seg ≤ M ∨ seg.length ≤ 1) ∧ Aside0 (ST w wr g M col seg va (St.isort leR pre))) (fun _ _ _ v _ => l.length - (intOf v).toNat)
    case atStart => exact ⟨0, col, [], [], 0, 0, Nat.zero_le _, rfl, rfl, rfl, ⟨rfl, rfl⟩, ⟨rfl⟩, ⟨.inr (Nat.zero_le _)⟩, HST⟩
    case round =>
      clear HST
      obtain ⟨i, col, seg, pre, s, n, hi, rfl, rfl, rfl, HSN, HTK, HBD, HST⟩ := hrel
      obtain ⟨Aa, ca, rfl⟩ := Kd.R_slice HST.out.2.2.1
      by_cases hlt : i < l.length
      · have hd1 : decide ((i : Int) < (l.length : Int)) = true := by simp; omega
        have p1 : (0 : Int) ≤ (i : Int) := Int.natCast_nonneg i
        have q1 : (i : Int) < (l.length : Int) := Int.ofNat_lt.2 hlt
        obtain ⟨ad, e, hx0, hx1, hx2⟩ := at_T23 HR.out i p1 q1
        subst e
        rw [rd23_nat' l i hlt] at hx0 hx1 hx2
        rw [Int.toNat_natCast] at hx0 hx1 hx2
        have HK0 := Aside0.mk (show ∀ W : World, Below w.heap.size w W → (W.cell? (ad.add (i * 3)) = some (.int .i64 l[i].f0) ∧ W.cell? ⟨(ad.add (i * 3)).block, (ad.add (i * 3)).off + 1, none⟩ = some (.string l[i].f1) ∧ W.cell? ⟨(ad.add (i * 3)).block, (ad.add (i * 3)).off + 2, none⟩ = some (.string l[i].f2)) from
          fun W hb => ⟨cell_kept hx0 (Kept.of_below hb (fun _ => False)) (fun h => h), cell_kept hx1 (Kept.of_below hb (fun _ => False)) (fun h => h), cell_kept hx2 (Kept.of_below hb (fun _ => False)) (fun h => h)⟩)
        have HSZ := Aside0.mk (show l[i].f1.size ≤ 140737488351232 ∧ l[i].f2.size ≤ 140737488351232 from ⟨HX.out _ (List.getElem_mem hlt), HX2.out _ (List.getElem_mem hlt)⟩)
        have HTS := Aside0.mk (show l.take (i + 1) = (pre ++ seg) ++ [l[i]] by rw [List.take_succ_eq_append_getElem hlt, HTK.out])
        have HSL := Aside0.mk (len_seg HTK.out)
        have HOK := Aside0.mk (okR_seg HTK.out HX.out)
        have HMG := Aside0.mk (merge_seg HTK.out HX.out HL.out)
        replace p1 := eq_true p1
        replace q1 := eq_true q1
        clear hx0 hx1 hx2
        generalize l[i] = x at HK0 HSZ HTS
        have hX : x.f1.size + x.f2.size ≤ 281474976710656 := by have := HSZ.out; omega
        obtain ⟨q0, hq0⟩ : ∃ q, (x.f1.size : Int) + (x.f2.size : Int) = q := ⟨_, rfl⟩
        obtain ⟨c, hc⟩ : ∃ c, (cst x : Int) = c := ⟨_, rfl⟩
        have hqr : 0 ≤ q0 ∧ q0 ≤ 281474976710656 ∧ c = q0 + 32 := by unfold cst at hc; omega
        have w1 : IntKind.i64.wrap ((x.f1.size : Int) + (x.f2.size : Int)) = q0 := by rw [IntKind.wrap_i64]; omega
        have w2 : IntKind.i64.wrap (q0 + 32) = c := by rw [IntKind.wrap_i64]; omega
        have hss := csum_nonneg seg
        have hsn := HSN.out
        have hseg32 : csum seg ≤ 562949953421312 := seg_small HTK.out HX.out HX2.out HBD.out (by have := HM.out; omega)
        have hwi : wrap64 ((i : Int) + 1) = ((i + 1 : Nat) : Int) := by (have := HL.out; unfold wrap64; omega)
        have HWI := Aside0.mk hwi
        have HXX := Aside0.mk hX
        have HQ := Aside0.mk hqr
        have HCC := Aside0.mk hc
        have hsl := HSL.out
        have hll := HL.out
        have hmm := HM.out
        by_cases hz : seg.length = 0
        · obtain rfl := List.eq_nil_of_length_eq_zero hz
          have e1 : s = 0 := hsn.1
          have e2 : n = 0 := hsn.2
          subst e1 e2
          clear hss hsn hseg32 hz hX hqr hc hwi hsl hll hmm hq0
          obtain ⟨f1, f2, f3⟩ := HK0.out wr HST.out.2.2.2
          go_wp2_with fail
          go_region
          go_wp2_with fail
          clear f1 f2 f3
          refine (HST.out.drew.addOne x HXX.out).mono ?_
          rintro e w2' ⟨rfl, col2, hS2⟩
          have HS2 := Aside0.mk hS2
          clear hS2 HST
          by_cases hg : M < c
          · have d5 : decide (M < c) = true := decide_eq_true hg
            clear hg
            have w5 : IntKind.i64.wrap (0 + c) = c := by rw [IntKind.wrap_i64]; have := HQ.out; omega
            have w6 : IntKind.i64.wrap c = c := by rw [IntKind.wrap_i64]; have := HQ.out; omega
            have HE1 := Aside0.mk (show c = csum ([] ++ [x]) by rw [csum_add]; unfold csum; simp only [List.map_nil, List.sum_nil]; have := HCC.out; omega)
            have HE2 := Aside0.mk (show (1 : Int) = ((([] : List S23) ++ [x]).length : Int) from rfl)
            go_wp2_with fail
            refine (HS2.out.used c HE1.out).mono ?_
            rintro e w8' ⟨rfl, hB⟩
            have HS3 := Aside0.mk (HS2.out.below hB)
            clear hB HS2
            go_wp2_with fail
            refine (HS3.out.len 1 HE2.out).mono ?_
            rintro e w9' ⟨rfl, hB⟩
            have HS4 := Aside0.mk (HS3.out.below hB)
            clear hB HS3
            go_wp2_with fail
            go_roundw
            case rel => exact ⟨i + 1, _, [] ++ [x], pre, c, 1, by omega, rfl, rfl, by rw [HWI.out], ⟨HE1.out, HE2.out⟩, ⟨by rw [HTS.out]; simp⟩, ⟨.inr (Nat.le_refl _)⟩, ⟨by first | exact HS4.out | exact HS4.out.drew⟩⟩
            case measure => rw [HWI.out]; simp [intOf]; omega
          · have d5 : decide (M < c) = false := decide_eq_false hg
            clear hg
            have w5 : IntKind.i64.wrap (0 + c) = c := by rw [IntKind.wrap_i64]; have := HQ.out; omega
            have w6 : IntKind.i64.wrap c = c := by rw [IntKind.wrap_i64]; have := HQ.out; omega
            have HE1 := Aside0.mk (show c = csum ([] ++ [x]) by rw [csum_add]; unfold csum; simp only [List.map_nil, List.sum_nil]; have := HCC.out; omega)
            have HE2 := Aside0.mk (show (1 : Int) = ((([] : List S23) ++ [x]).length : Int) from rfl)
            go_wp2_with fail
            refine (HS2.out.used c HE1.out).mono ?_
            rintro e w8' ⟨rfl, hB⟩
            have HS3 := Aside0.mk (HS2.out.below hB)
            clear hB HS2
            go_wp2_with fail
            refine (HS3.out.len 1 HE2.out).mono ?_
            rintro e w9' ⟨rfl, hB⟩
            have HS4 := Aside0.mk (HS3.out.below hB)
            clear hB HS3
            go_wp2_with fail
            go_roundw
            case rel => exact ⟨i + 1, _, [] ++ [x], pre, c, 1, by omega, rfl, rfl, by rw [HWI.out], ⟨HE1.out, HE2.out⟩, ⟨by rw [HTS.out]; simp⟩, ⟨.inr (Nat.le_refl _)⟩, ⟨by first | exact HS4.out | exact HS4.out.drew⟩⟩
            case measure => rw [HWI.out]; simp [intOf]; omega
        · by_cases hfit : csum seg + cst x ≤ M
          · obtain ⟨s2, hs2⟩ : ∃ z, s + c = z := ⟨_, rfl⟩
            obtain ⟨n2, hn2⟩ : ∃ z, n + 1 = z := ⟨_, rfl⟩
            have w3 : IntKind.i64.wrap (s + c) = s2 := by rw [IntKind.wrap_i64]; omega
            have w4 : IntKind.i64.wrap (n + 1) = n2 := by rw [IntKind.wrap_i64]; omega
            have d3 : decide (M < s2) = false := decide_eq_false (by omega)
            have HS2E := Aside0.mk (show s2 = csum (seg ++ [x]) by rw [csum_add]; omega)
            have HN2E := Aside0.mk (show n2 = ((seg ++ [x]).length : Int) by rw [List.length_append, List.length_singleton]; omega)
            have HFIT := Aside0.mk hfit
            have HZ := Aside0.mk (show 0 < seg.length by omega)
            clear hss hsn hseg32 hz hX hqr hc hwi hsl hll hmm hfit hs2 hn2 hq0
            obtain ⟨f1, f2, f3⟩ := HK0.out wr HST.out.2.2.2
            go_wp2_with fail
            go_region
            go_wp2_with fail
            clear f1 f2 f3
            refine (HST.out.drew.addMore x HXX.out (by have := HSL.out; have := HL.out; omega) (by have := HM.out; omega) HZ.out HFIT.out).mono ?_
            rintro e w2' ⟨rfl, col2, hS2⟩
            have HST2 := Aside0.mk hS2
            clear hS2 HST
            go_wp2_with fail
            refine (HST2.out.used s2 HS2E.out).mono ?_
            rintro e w3' ⟨rfl, hB⟩
            have HST3 := Aside0.mk (HST2.out.below hB)
            clear hB HST2
            go_wp2_with fail
            refine (HST3.out.len n2 HN2E.out).mono ?_
            rintro e w4' ⟨rfl, hB⟩
            have HST4 := Aside0.mk (HST3.out.below hB)
            clear hB HST3
            go_wp2_with fail
            go_roundw
            case rel => exact ⟨i + 1, _, seg ++ [x], pre, s2, n2, by omega, rfl, rfl, by rw [HWI.out], ⟨HS2E.out, HN2E.out⟩, ⟨by rw [HTS.out, List.append_assoc]⟩, ⟨.inl (by rw [csum_add]; exact HFIT.out)⟩, ⟨by first | exact HST4.out | exact HST4.out.drew⟩⟩
            case measure => rw [HWI.out]; simp [intOf]; omega
          · obtain ⟨s2, hs2⟩ : ∃ z, s + c = z := ⟨_, rfl⟩
            have w3 : IntKind.i64.wrap (s + c) = s2 := by rw [IntKind.wrap_i64]; omega
            have d3 : decide (s2 ≤ M) = false := decide_eq_false (by omega)
            have d4 : (n == 0) = false := by simp; omega
            have HFIT := Aside0.mk (show M < csum seg + cst x by omega)
            have HZ := Aside0.mk (show 0 < seg.length by omega)
            have HB32 := Aside0.mk hseg32
            clear hss hsn hseg32 hz hX hqr hc hwi hsl hll hmm hfit hs2 hq0
            obtain ⟨f1, f2, f3⟩ := HK0.out wr HST.out.2.2.2
            go_wp2_with fail
            go_region
            go_wp2_with fail
            clear f1 f2 f3
            refine (HST.out.drew.addFull x HXX.out HZ.out HB32.out HFIT.out).mono ?_
            rintro e w2' ⟨rfl, hS2⟩
            have HST2 := Aside0.mk hS2
            clear hS2 HST
            go_wp2_with fail
            refine (HST2.out.take (by have := HSL.out; have := HL.out; omega) HOK.out.2).mono ?_
            rintro e w3' ⟨v, rfl, hv, hS3⟩
            obtain ⟨Av, cv, rfl, hcv, hCv⟩ := Kd.R_reads hv
            obtain ⟨Aw, cw, ew, hca, hCa⟩ := Kd.R_reads hS3.2.2.1
            obtain ⟨kk, hkk⟩ := HMG.out
            have HST3 := Aside0.mk hS3
            have HMC := Aside0.mk (winnowlaw10_merged.calls kk Aw cw (St.isort leR pre) Av cv (St.isort leR seg) _ w3' hCa hca hCv hcv hkk)
            rw [← ew] at HMC
            clear hS3 hv hcv hCv hca hCa hkk ew
            go_wp2_with fail
            refine HMC.out.mono ?_
            rintro e w4' ⟨vm, rfl, hvm, hB⟩
            obtain ⟨col4, hS4⟩ := HST3.out.merged hB hvm
            have HST4 := Aside0.mk hS4
            clear hvm hB hS4 HMC HST3
            go_wp2_with fail
            refine (HST4.out.len 0 rfl).mono ?_
            rintro e w5' ⟨rfl, hB⟩
            have HST5 := Aside0.mk (HST4.out.below hB)
            clear hB HST4
            go_wp2_with fail
            refine (HST5.out.used 0 rfl).mono ?_
            rintro e w6' ⟨rfl, hB⟩
            have HST6 := Aside0.mk (HST5.out.below hB)
            clear hB HST5
            obtain ⟨f1, f2, f3⟩ := HK0.out w6' HST6.out.2.2.2
            go_wp2_with fail
            clear f1 f2 f3
            refine (HST6.out.addOne x HXX.out).mono ?_
            rintro e w7' ⟨rfl, col2, hS2⟩
            have HS2 := Aside0.mk hS2
            clear hS2 HST6
            by_cases hg : M < c
            · have d5 : decide (M < c) = true := decide_eq_true hg
              clear hg
              have w5 : IntKind.i64.wrap (0 + c) = c := by rw [IntKind.wrap_i64]; have := HQ.out; omega
              have w6 : IntKind.i64.wrap c = c := by rw [IntKind.wrap_i64]; have := HQ.out; omega
              have HE1 := Aside0.mk (show c = csum ([] ++ [x]) by rw [csum_add]; unfold csum; simp only [List.map_nil, List.sum_nil]; have := HCC.out; omega)
              have HE2 := Aside0.mk (show (1 : Int) = ((([] : List S23) ++ [x]).length : Int) from rfl)
              go_wp2_with fail
              refine (HS2.out.used c HE1.out).mono ?_
              rintro e w8' ⟨rfl, hB⟩
              have HS3 := Aside0.mk (HS2.out.below hB)
              clear hB HS2
              go_wp2_with fail
              refine (HS3.out.len 1 HE2.out).mono ?_
              rintro e w9' ⟨rfl, hB⟩
              have HS4 := Aside0.mk (HS3.out.below hB)
              clear hB HS3
              go_wp2_with fail
              go_roundw
              case rel => exact ⟨i + 1, _, [] ++ [x], (pre ++ seg), c, 1, by omega, rfl, rfl, by rw [HWI.out], ⟨HE1.out, HE2.out⟩, ⟨by rw [HTS.out]; simp⟩, ⟨.inr (Nat.le_refl _)⟩, ⟨by first | exact HS4.out | exact HS4.out.drew⟩⟩
              case measure => rw [HWI.out]; simp [intOf]; omega
            · have d5 : decide (M < c) = false := decide_eq_false hg
              clear hg
              have w5 : IntKind.i64.wrap (0 + c) = c := by rw [IntKind.wrap_i64]; have := HQ.out; omega
              have w6 : IntKind.i64.wrap c = c := by rw [IntKind.wrap_i64]; have := HQ.out; omega
              have HE1 := Aside0.mk (show c = csum ([] ++ [x]) by rw [csum_add]; unfold csum; simp only [List.map_nil, List.sum_nil]; have := HCC.out; omega)
              have HE2 := Aside0.mk (show (1 : Int) = ((([] : List S23) ++ [x]).length : Int) from rfl)
              go_wp2_with fail
              refine (HS2.out.used c HE1.out).mono ?_
              rintro e w8' ⟨rfl, hB⟩
              have HS3 := Aside0.mk (HS2.out.below hB)
              clear hB HS2
              go_wp2_with fail
              refine (HS3.out.len 1 HE2.out).mono ?_
              rintro e w9' ⟨rfl, hB⟩
              have HS4 := Aside0.mk (HS3.out.below hB)
              clear hB HS3
              go_wp2_with fail
              go_roundw
              case rel => exact ⟨i + 1, _, [] ++ [x], (pre ++ seg), c, 1, by omega, rfl, rfl, by rw [HWI.out], ⟨HE1.out, HE2.out⟩, ⟨by rw [HTS.out]; simp⟩, ⟨.inr (Nat.le_refl _)⟩, ⟨by first | exact HS4.out | exact HS4.out.drew⟩⟩
              case measure => rw [HWI.out]; simp [intOf]; omega
      · have hi2 : i = l.length := by omega
        have hd1 : decide ((i : Int) < (l.length : Int)) = false := by simp; omega
        have hall : pre ++ seg = l := by rw [← HTK.out, List.take_of_length_le (by omega)]
        have hmg := merge_seg HTK.out HX.out HL.out
        rw [hall] at hmg
        have HMG := Aside0.mk hmg
        have HSL := Aside0.mk (len_seg HTK.out)
        have HOK := Aside0.mk (okR_seg HTK.out HX.out)
        have hlen : (St.isort leR l).length = l.length := St.isort_length l
        have HSM := Aside0.mk (same_eq (St.isort leR l) (by have := HL.out; omega) (l.length + 1) (by omega))
        clear hi2 hall hmg hlen
        go_wp2_with fail
        refine (HST.out.take (by have := HSL.out; have := HL.out; omega) HOK.out.2).mono ?_
        rintro e w3' ⟨v, rfl, hv, hS3⟩
        obtain ⟨Av, cv, rfl, hcv, hCv⟩ := Kd.R_reads hv
        obtain ⟨Aw, cw, ew, hca, hCa⟩ := Kd.R_reads hS3.2.2.1
        obtain ⟨kk, hkk⟩ := HMG.out
        have HST3 := Aside0.mk hS3
        have HMC := Aside0.mk (winnowlaw10_merged.calls kk Aw cw (St.isort leR pre) Av cv (St.isort leR seg) _ w3' hCa hca hCv hcv hkk)
        rw [← ew] at HMC
        clear hS3 hv hcv hCv hca hCa hkk ew
        go_wp2_with fail
        refine HMC.out.mono ?_
        rintro e w4' ⟨vm, rfl, hvm, hB⟩
        have HB4 := Aside0.mk (below_step HST3.out.2.2.2 hB)
        have HVM := Aside0.mk hvm
        clear hvm hB HMC HST3 HST
        go_wp2_with fail
        refine (sortbuf_Sort.calls A0 c0 l _ _ (Kd.C_below HR.out HB4.out) HC.out HS.out).mono ?_
        rintro e w5' ⟨vs, rfl, hvs, hB⟩
        obtain ⟨Am, cm, rfl, hcm, hCm⟩ := Kd.R_reads (Kd.R_below HVM.out hB)
        obtain ⟨As, cs, rfl, hcs, hCs⟩ := Kd.R_reads hvs
        have HB5 := Aside0.mk (below_step HB4.out hB)
        have HSR := Aside0.mk (winnowlaw10_sameRecords.calls (l.length + 1) Am cm (St.isort leR l) As cs (St.isort leR l) _ w5' hCm hcm hCs hcs HSM.out)
        clear hvs hB HVM hcm hCm hcs hCs
        go_wp2_with fail
        refine HSR.out.mono ?_
        rintro e w6' ⟨rfl, hD⟩
        have HB6 := Aside0.mk (below_step HB5.out hD.below)
        clear hD HSR
        go_wp2_with fail
        refine (winnowlaw10_works.calls true _ works_eq).mono ?_
        rintro e w7' ⟨rfl, hB⟩
        have HB7 := Aside0.mk (below_step HB6.out hB)
        clear hB
        go_wp2_with fail
        go_ret
        exact ⟨by first | rfl | (simp; done), HB7.out⟩
/-- The law as a function with a contract: true of whatever is not too long. -/
def winnowlaw10_SortBounds.f (bud : Int) (l : List S23) : Option Bool := if l.length ≤ 3518437208780 ∧ (∀ x ∈ l, x.f1.size ≤ 140737488351232) ∧ (∀ x ∈ l, x.f2.size ≤ 140737488351232) then some true else none
theorem winnowlaw10_SortBounds.calls (bud : Int) (A0 : Option Addr) (c0 : Nat) (l : List S23) (r : Bool) (w : World) (hr0 : Kd.C k23 w A0 l.length l) (hc0 : l.length ≤ c0) (h : winnowlaw10_SortBounds.f bud l = some r) :
    Calls Try.prog 7 #[.int .i64 bud, .slice A0 l.length c0] w fun e w' => e = .returned (.bool r) ∧ Below w.heap.size w w' := by
  unfold winnowlaw10_SortBounds.f at h
  by_cases hl : l.length ≤ 3518437208780 ∧ (∀ x ∈ l, x.f1.size ≤ 140737488351232) ∧ (∀ x ∈ l, x.f2.size ≤ 140737488351232)
  · rw [if_pos hl] at h
    injection h with h
    subst h
    exact SortBounds_walk bud A0 c0 l w hr0 hc0 hl.1 hl.2.1 hl.2.2
  · rw [if_neg hl] at h
    cases h
end Go.Proofs.Ytljahmnilmjlpaa.P
