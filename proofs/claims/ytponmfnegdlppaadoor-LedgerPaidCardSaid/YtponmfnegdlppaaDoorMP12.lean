/- Several texts laid together (wip/tools/merge2.py): HMadeC, HMadeD, RunStep. -/
import Derived.Test.YtponmfnegdlppaaDoorMP10
import Derived.Test.YtponmfnegdlppaaDoorMP9
import Derived.Outline
import Derived.Deep.DeepCutAuto
import Derived.Deep.RegionHeld3
section
/- made: a move on a book, path by path (printed by HMade.gen.py). -/
namespace Go.Proofs.YtponmfnegdlppaaDoor.P
open Go.RowKit Go.Proofs.YtponmfnegdlppaaDoorW.PrintWords Go.Proofs.YtponmfnegdlppaaDoorW.PrintLast Go.Proofs.YtponmfnegdlppaaDoorW.PrintMore
set_option linter.unusedVariables false
set_option linter.unusedSimpArgs false

set_option maxHeartbeats 8000000 in
set_option maxRecDepth 100000 in
theorem made_blame_err {w0 W : World} {B : List Bx} {gN : Nat} {bg ch : Nat → Bool} {s c t : Int} {A0 A1 : Option Addr} {p0 p1 : Nat} {l0 l1 : List S38} {fl : Bool} {x0 x1 x2 x3 : Int} {m r k : Nat} {tk tb : Int} (h : Env w0 (⟨gN, ncells bg ch s c, 56⟩ :: B) (⟨1, k38, 38, .slice A0 l0.length p0, l0⟩ :: ⟨2, k38, 38, .slice A1 l1.length p1, l1⟩ :: []) W) (hT : Tab w0) (hl0 : l0.length ≤ 6000000000000) (hl1 : l1.length ≤ 6000000000000)
    (hpk : winnowlaw19_picked.f x1 m r = some (tk, tb)) (hnu : winnowlaw19_number.f tk tb m = some (k : Int)) {rt mt : Nat} {xa : Int} {r1 : Int} {r2 r3 : List S38} {r4 r5 : Bool} {r6 : Int} (hop : winnowlaw19_few.f x0 0 3 = some 3) (hm1 : 1 ≤ m) (hm2 : m ≤ 6) (hr1 : 1 ≤ r) (hr2 : r ≤ 6) (hmt : winnowlaw19_few.f x2 0 ((m : Int) - 1) = some (mt : Int)) (hrt : winnowlaw19_few.f x1 0 ((r : Int) - 1) = some (rt : Int)) (hxa : winnowlaw19_few.f x3 1 4 = some xa) (hb : blameP t l0 l1 fl rt mt xa = (r1, r2, r3, r4, r5, r6)) (hne : r6 ≠ 0) (h5 : r5 = false) :
    Calls Tryd.prog 35 #[.pointer (some ⟨gN, 0, none⟩), .agg #[.int .i64 t, .slice A0 l0.length p0, .slice A1 l1.length p1, .bool fl], .agg #[.int .i64 x0, .int .i64 x1, .int .i64 x2, .int .i64 x3], .int .i64 m, .int .i64 r] W fun e W' => e = .returned (.tuple #[.agg #[.int .i64 t, .slice A0 l0.length p0, .slice A1 l1.length p1, .bool fl], .bool true]) ∧ Env w0 (⟨gN, ncells bg ch s c, 56⟩ :: B) (⟨1, k38, 38, .slice A0 l0.length p0, l0⟩ :: ⟨2, k38, 38, .slice A1 l1.length p1, l1⟩ :: []) W' := by
  have HH := Aside0.mk h
  have HPK := Aside0.mk hpk
  have HNU := Aside0.mk hnu
  have HT := Aside0.mk hT
  have HL0 := Aside0.mk hl0
  have HL1 := Aside0.mk hl1
  have HOP := Aside0.mk hop
  have HM1 := Aside0.mk hm1
  have HM2 := Aside0.mk hm2
  have HR1 := Aside0.mk hr1
  have HR2 := Aside0.mk hr2
  have HMT := Aside0.mk hmt
  have HRT := Aside0.mk hrt
  have HXA := Aside0.mk hxa
  have HB := Aside0.mk hb
  have HNE := Aside0.mk hne
  have H5 := Aside0.mk h5
  clear hpk hnu hT hl0 hl1 hop hm1 hm2 hr1 hr2 hmt hrt hxa hb hne h5
  have z0 : (W.alloc (.cells #[.int .i64 t, .slice A0 l0.length p0, .slice A1 l1.length p1, .bool fl] 24)).heap.size = W.heap.size + 1 := by simp
  have z1 : ((W.alloc (.cells #[.int .i64 t, .slice A0 l0.length p0, .slice A1 l1.length p1, .bool fl] 24)).alloc (.cells #[.int .i64 x0, .int .i64 x1, .int .i64 x2, .int .i64 x3] 58)).heap.size = W.heap.size + 1 + 1 := by simp
  have hE0 := ((h.push #[.int .i64 t, .slice A0 l0.length p0, .slice A1 l1.length p1, .bool fl] 24).push #[.int .i64 x0, .int .i64 x1, .int .i64 x2, .int .i64 x3] 58).push #[.int .i64 0, .slice none 0 0, .slice none 0 0, .bool false] 24
  rw [z0, z1] at hE0
  clear z0 z1
  obtain ⟨g10, hg2⟩ : ∃ g, g = W.heap.size + 1 + 1 := ⟨_, rfl⟩
  obtain ⟨g2, hg1⟩ : ∃ g, g = W.heap.size + 1 := ⟨_, rfl⟩
  obtain ⟨g1, hg0⟩ : ∃ g, g = W.heap.size := ⟨_, rfl⟩
  rw [← hg2, ← hg1, ← hg0] at hE0
  obtain ⟨W0, hW0, hE⟩ : ∃ W0, ((W.alloc (.cells #[.int .i64 t, .slice A0 l0.length p0, .slice A1 l1.length p1, .bool fl] 24)).alloc (.cells #[.int .i64 x0, .int .i64 x1, .int .i64 x2, .int .i64 x3] 58)).alloc (.cells #[.int .i64 0, .slice none 0 0, .slice none 0 0, .bool false] 24) = W0 ∧ Env w0 _ _ W0 := ⟨_, rfl, hE0⟩
  have HG0 := Aside0.mk hg0
  have HG1 := Aside0.mk hg1
  have HG2 := Aside0.mk hg2
  have HW0 := Aside0.mk hW0
  have HE := Aside0.mk hE
  clear hE hE0 hW0 hg0 hg1 hg2
  clear h
  have hu24 := Tryd.underlying24
  have hu29 := Tryd.underlying29
  have hu56 := Tryd.underlying56
  have hu58 := Tryd.underlying58
  go_enter Tryd.func35, Tryd.ntmps35
  go_upto_region 1 with fail
  rw [← HG2.out, ← HG1.out, ← HG0.out, HW0.out]
  clear HW0 HG0 HG1 HG2
  have xg2_0 : W0.cell? ⟨g2, 0, none⟩ = some (.int .i64 x0) := HE.out.at_ 1 0 rfl rfl
  have xg2_1 : W0.cell? ⟨g2, 1, none⟩ = some (.int .i64 x1) := HE.out.at_ 1 1 rfl rfl
  have xg2_2 : W0.cell? ⟨g2, 2, none⟩ = some (.int .i64 x2) := HE.out.at_ 1 2 rfl rfl
  have xg2_3 : W0.cell? ⟨g2, 3, none⟩ = some (.int .i64 x3) := HE.out.at_ 1 3 rfl rfl
  go_wp2_with fail
  refine (winnowlaw19_picked.calls x1 m r tk tb _ HPK.out).mono ?_
  clear xg2_0 xg2_1 xg2_2 xg2_3
  rintro e w1 ⟨rfl, hB⟩
  have hE := HE.out.below hB
  clear HE hB
  have HE := Aside0.mk hE
  clear hE
  go_upto_region 2 with fail
  have hE := HE.out.push #[.int .i64 tk, .int .i64 tb] 29
  obtain ⟨g12, hg⟩ : ∃ g, g = w1.heap.size := ⟨_, rfl⟩
  rw [← hg] at hE ⊢
  generalize w1.alloc (.cells #[.int .i64 tk, .int .i64 tb] 29) = w2 at hE ⊢
  clear hg HE
  have HE := Aside0.mk hE
  clear hE
  have xg12_0 : w2.cell? ⟨g12, 0, none⟩ = some (.int .i64 tk) := HE.out.at_ 0 0 rfl rfl
  have xg12_1 : w2.cell? ⟨g12, 1, none⟩ = some (.int .i64 tb) := HE.out.at_ 0 1 rfl rfl
  go_wp2_with fail
  refine (winnowlaw19_number.calls tk tb m k _ HNU.out).mono ?_
  clear xg12_0 xg12_1
  rintro e w3 ⟨rfl, hB⟩
  have hE := HE.out.below hB
  clear HE hB
  have HE := Aside0.mk hE
  clear hE
  have xg2_0 : w3.cell? ⟨g2, 0, none⟩ = some (.int .i64 x0) := HE.out.at_ 2 0 rfl rfl
  have xg2_1 : w3.cell? ⟨g2, 1, none⟩ = some (.int .i64 x1) := HE.out.at_ 2 1 rfl rfl
  have xg2_2 : w3.cell? ⟨g2, 2, none⟩ = some (.int .i64 x2) := HE.out.at_ 2 2 rfl rfl
  have xg2_3 : w3.cell? ⟨g2, 3, none⟩ = some (.int .i64 x3) := HE.out.at_ 2 3 rfl rfl
  go_wp2_with fail
  refine (winnowlaw19_few.calls x0 0 3 3 _ HOP.out).mono ?_
  clear xg2_0 xg2_1 xg2_2 xg2_3
  rintro e w4 ⟨rfl, hB⟩
  have hE := HE.out.below hB.below
  clear HE hB
  have HE := Aside0.mk hE
  clear hE
  have hm_ : ((m : Int) == 0) = false := by have := HM1.out; simp; omega
  have hwm_ : IntKind.i64.wrap ((m : Int) - 1) = (m : Int) - 1 := by rw [IntKind.wrap_i64]; have := HM1.out; have := HM2.out; omega
  have xg2_0 : w4.cell? ⟨g2, 0, none⟩ = some (.int .i64 x0) := HE.out.at_ 2 0 rfl rfl
  have xg2_1 : w4.cell? ⟨g2, 1, none⟩ = some (.int .i64 x1) := HE.out.at_ 2 1 rfl rfl
  have xg2_2 : w4.cell? ⟨g2, 2, none⟩ = some (.int .i64 x2) := HE.out.at_ 2 2 rfl rfl
  have xg2_3 : w4.cell? ⟨g2, 3, none⟩ = some (.int .i64 x3) := HE.out.at_ 2 3 rfl rfl
  go_wp2_with fail
  refine (winnowlaw19_few.calls x2 0 ((m : Int) - 1) (mt : Int) _ HMT.out).mono ?_
  clear xg2_0 xg2_1 xg2_2 xg2_3
  rintro e w5 ⟨rfl, hB⟩
  have hE := HE.out.below hB.below
  clear HE hB
  have HE := Aside0.mk hE
  clear hE
  have xg2_0 : w5.cell? ⟨g2, 0, none⟩ = some (.int .i64 x0) := HE.out.at_ 2 0 rfl rfl
  have xg2_1 : w5.cell? ⟨g2, 1, none⟩ = some (.int .i64 x1) := HE.out.at_ 2 1 rfl rfl
  have xg2_2 : w5.cell? ⟨g2, 2, none⟩ = some (.int .i64 x2) := HE.out.at_ 2 2 rfl rfl
  have xg2_3 : w5.cell? ⟨g2, 3, none⟩ = some (.int .i64 x3) := HE.out.at_ 2 3 rfl rfl
  go_wp2_with fail
  refine (winnowlaw19_few.calls x3 1 4 xa _ HXA.out).mono ?_
  clear xg2_0 xg2_1 xg2_2 xg2_3
  rintro e w6 ⟨rfl, hB⟩
  have hE := HE.out.below hB.below
  clear HE hB
  have HE := Aside0.mk hE
  clear hE
  clear hwm_ hm_
  go_upto_region 23 with fail
  have hwr_ : IntKind.i64.wrap ((r : Int) - 1) = (r : Int) - 1 := by rw [IntKind.wrap_i64]; have := HR1.out; have := HR2.out; omega
  go_cut [24, 25, 26] (fun s0 s1 s2 wx => ∃ (g24 : Nat) (P0 : Option Addr) (q0_ : Nat) (P1 : Option Addr) (q1_ : Nat), s0 = .pointer (some ⟨g24, 0, none⟩) ∧ s1 = .bool r5 ∧ s2 = .int .i64 r6 ∧ Aside0 (Env w0 (⟨g24, #[.int .i64 r1, .slice P0 r2.length q0_, .slice P1 r3.length q1_, .bool r4], 24⟩ :: ⟨g12, #[.int .i64 tk, .int .i64 tb], 29⟩ :: ⟨g10, #[.int .i64 0, .slice none 0 0, .slice none 0 0, .bool false], 24⟩ :: ⟨g2, #[.int .i64 x0, .int .i64 x1, .int .i64 x2, .int .i64 x3], 58⟩ :: ⟨g1, #[.int .i64 t, .slice A0 l0.length p0, .slice A1 l1.length p1, .bool fl], 24⟩ :: ⟨gN, ncells bg ch s c, 56⟩ :: B) (⟨3, k38, 38, .slice P0 r2.length q0_, r2⟩ :: ⟨4, k38, 38, .slice P1 r3.length q1_, r3⟩ :: ⟨1, k38, 38, .slice A0 l0.length p0, l0⟩ :: ⟨2, k38, 38, .slice A1 l1.length p1, l1⟩ :: []) wx))
  case first =>
    have HSX := Aside0.mk (fun (w' : World) (h : Env w0 (⟨g12, #[.int .i64 tk, .int .i64 tb], 29⟩ :: ⟨g10, #[.int .i64 0, .slice none 0 0, .slice none 0 0, .bool false], 24⟩ :: ⟨g2, #[.int .i64 x0, .int .i64 x1, .int .i64 x2, .int .i64 x3], 58⟩ :: ⟨g1, #[.int .i64 t, .slice A0 l0.length p0, .slice A1 l1.length p1, .bool fl], 24⟩ :: ⟨gN, ncells bg ch s c, 56⟩ :: B) [] w') => (show w'.cell? ⟨g2, 0, none⟩ = some (.int .i64 x0) ∧ w'.cell? ⟨g2, 1, none⟩ = some (.int .i64 x1) ∧ w'.cell? ⟨g2, 2, none⟩ = some (.int .i64 x2) ∧ w'.cell? ⟨g2, 3, none⟩ = some (.int .i64 x3) ∧ w'.cell? ⟨g1, 0, none⟩ = some (.int .i64 t) ∧ w'.cell? ⟨g1, 1, none⟩ = some (.slice A0 l0.length p0) ∧ w'.cell? ⟨g1, 2, none⟩ = some (.slice A1 l1.length p1) ∧ w'.cell? ⟨g1, 3, none⟩ = some (.bool fl) from ⟨h.at_ 2 0 rfl rfl, h.at_ 2 1 rfl rfl, h.at_ 2 2 rfl rfl, h.at_ 2 3 rfl rfl, h.at_ 3 0 rfl rfl, h.at_ 3 1 rfl rfl, h.at_ 3 2 rfl rfl, h.at_ 3 3 rfl rfl⟩))
    go_region_held3 (fun w' => w'.cell? ⟨g2, 0, none⟩ = some (.int .i64 x0) ∧ w'.cell? ⟨g2, 1, none⟩ = some (.int .i64 x1) ∧ w'.cell? ⟨g2, 2, none⟩ = some (.int .i64 x2) ∧ w'.cell? ⟨g2, 3, none⟩ = some (.int .i64 x3) ∧ w'.cell? ⟨g1, 0, none⟩ = some (.int .i64 t) ∧ w'.cell? ⟨g1, 1, none⟩ = some (.slice A0 l0.length p0) ∧ w'.cell? ⟨g1, 2, none⟩ = some (.slice A1 l1.length p1) ∧ w'.cell? ⟨g1, 3, none⟩ = some (.bool fl)) (first
        | exact HSX.out _ (HBL.out.push #[.int .i64 r1, .slice P0 r2.length q0_, .slice P1 r3.length q1_, .bool r4] 24).bare1
        | exact HSX.out _ HBL.out.bare
        | exact HSX.out _ HBL.out.bare1
        | exact HSX.out _ (HBL.out.push #[.int .i64 0, .slice none 0 0, .slice none 0 0, .bool false] 24).bare1
        | exact HSX.out _ HBL.out.drew.bare
        | exact HSX.out _ HBL.out.drew.bare1
        | exact HSX.out _ (HBL.out.push #[.int .i64 0, .slice none 0 0, .slice none 0 0, .bool false] 24).drew.bare1
        | exact HSX.out _ HF.out.bare
        | exact HSX.out _ HF.out.bare1
        | exact HSX.out _ (HF.out.push #[.int .i64 0, .slice none 0 0, .slice none 0 0, .bool false] 24).bare1
        | exact HSX.out _ HF.out.drew.bare
        | exact HSX.out _ HF.out.drew.bare1
        | exact HSX.out _ (HF.out.push #[.int .i64 0, .slice none 0 0, .slice none 0 0, .bool false] 24).drew.bare1
        | exact HSX.out _ HE.out.bare
        | exact HSX.out _ HE.out.bare1
        | exact HSX.out _ (HE.out.push #[.int .i64 0, .slice none 0 0, .slice none 0 0, .bool false] 24).bare1
        | exact HSX.out _ HE.out.drew.bare
        | exact HSX.out _ HE.out.drew.bare1
        | exact HSX.out _ (HE.out.push #[.int .i64 0, .slice none 0 0, .slice none 0 0, .bool false] 24).drew.bare1
        | exact HSX.out _ (HBL.out.book4 (.int .i64 r1) (.slice P0 r2.length q0_) (.slice P1 r3.length q1_) (.bool r4)).bare1
        | exact HSX.out _ ((HBL.out.push #[.int .i64 0, .slice none 0 0, .slice none 0 0, .bool false] 24).book4 (.int .i64 r1) (.slice P0 r2.length q0_) (.slice P1 r3.length q1_) (.bool r4)).bare1) (first
        | ((go_at_call 32; (with_reducible refine (winnowlaw19_few.calls x1 0 ((r : Int) - 1) (rt : Int) _ HRT.out).mono ?_); rintro e w_HF ⟨rfl, hB⟩; have HF := Aside0.mk ((HE.out.drew).below hB.below); clear hB))
        | ((go_at_call 32; (with_reducible refine (winnowlaw19_few.calls x1 0 ((r : Int) - 1) (rt : Int) _ HRT.out).mono ?_); rintro e w_HF ⟨rfl, hB⟩; have HF := Aside0.mk (((HE.out.push #[.int .i64 0, .slice none 0 0, .slice none 0 0, .bool false] 24).drew).below hB.below); clear hB))
        | ((go_at_call 30; (with_reducible refine (blame_any t fl _ _ l0 _ _ l1 rt mt xa r1 r2 r3 r4 r5 r6 _ ((HF.out).row_ 0 rfl) ((HF.out).row_ 1 rfl) HL0.out HL1.out ((HF.out).tab HT.out) HB.out).mono ?_); rintro e w_HBL ⟨v0, v1, rfl, s0, s1, hB⟩; have hE := (HF.out).rows2 hB rfl s0 s1 3 4 (show ([3, 4, 1, 2] : List Nat).Nodup from by decide) (by decide) (by decide); obtain ⟨P0, q0_, rfl⟩ := Kd.R_slice s0; obtain ⟨P1, q1_, rfl⟩ := Kd.R_slice s1; have HBL := Aside0.mk hE; clear hB s0 s1 hE; (try have y0_ : World.cell? _ ⟨_, 0, none⟩ = some (.int .i64 0) := HBL.out.at_ 0 0 rfl rfl); (try have y1_ : World.cell? _ ⟨_, 1, none⟩ = some (.slice none 0 0) := HBL.out.at_ 0 1 rfl rfl); (try have y2_ : World.cell? _ ⟨_, 2, none⟩ = some (.slice none 0 0) := HBL.out.at_ 0 2 rfl rfl); (try have y3_ : World.cell? _ ⟨_, 3, none⟩ = some (.bool false) := HBL.out.at_ 0 3 rfl rfl); (try have f0_ := HBL.out.fr_ 0 0 (cs := #[.int .i64 0, .slice none 0 0, .slice none 0 0, .bool false]) rfl); (try have f1_ := HBL.out.fr_ 0 1 (cs := #[.int .i64 0, .slice none 0 0, .slice none 0 0, .bool false]) rfl); (try have f2_ := HBL.out.fr_ 0 2 (cs := #[.int .i64 0, .slice none 0 0, .slice none 0 0, .bool false]) rfl); (try have f3_ := HBL.out.fr_ 0 3 (cs := #[.int .i64 0, .slice none 0 0, .slice none 0 0, .bool false]) rfl)))
        | ((go_at_call 30; (with_reducible refine (blame_any t fl _ _ l0 _ _ l1 rt mt xa r1 r2 r3 r4 r5 r6 _ (((HF.out.push #[.int .i64 0, .slice none 0 0, .slice none 0 0, .bool false] 24)).row_ 0 rfl) (((HF.out.push #[.int .i64 0, .slice none 0 0, .slice none 0 0, .bool false] 24)).row_ 1 rfl) HL0.out HL1.out (((HF.out.push #[.int .i64 0, .slice none 0 0, .slice none 0 0, .bool false] 24)).tab HT.out) HB.out).mono ?_); rintro e w_HBL ⟨v0, v1, rfl, s0, s1, hB⟩; have hE := ((HF.out.push #[.int .i64 0, .slice none 0 0, .slice none 0 0, .bool false] 24)).rows2 hB rfl s0 s1 3 4 (show ([3, 4, 1, 2] : List Nat).Nodup from by decide) (by decide) (by decide); obtain ⟨P0, q0_, rfl⟩ := Kd.R_slice s0; obtain ⟨P1, q1_, rfl⟩ := Kd.R_slice s1; have HBL := Aside0.mk hE; clear hB s0 s1 hE; (try have y0_ : World.cell? _ ⟨_, 0, none⟩ = some (.int .i64 0) := HBL.out.at_ 0 0 rfl rfl); (try have y1_ : World.cell? _ ⟨_, 1, none⟩ = some (.slice none 0 0) := HBL.out.at_ 0 1 rfl rfl); (try have y2_ : World.cell? _ ⟨_, 2, none⟩ = some (.slice none 0 0) := HBL.out.at_ 0 2 rfl rfl); (try have y3_ : World.cell? _ ⟨_, 3, none⟩ = some (.bool false) := HBL.out.at_ 0 3 rfl rfl); (try have f0_ := HBL.out.fr_ 0 0 (cs := #[.int .i64 0, .slice none 0 0, .slice none 0 0, .bool false]) rfl); (try have f1_ := HBL.out.fr_ 0 1 (cs := #[.int .i64 0, .slice none 0 0, .slice none 0 0, .bool false]) rfl); (try have f2_ := HBL.out.fr_ 0 2 (cs := #[.int .i64 0, .slice none 0 0, .slice none 0 0, .bool false]) rfl); (try have f3_ := HBL.out.fr_ 0 3 (cs := #[.int .i64 0, .slice none 0 0, .slice none 0 0, .bool false]) rfl))))
    all_goals (go_wp2_with fail; go_meet; first | exact ⟨_, _, _, _, _, rfl, rfl, rfl, ⟨HBL.out.book4 (.int .i64 r1) (.slice P0 r2.length q0_) (.slice P1 r3.length q1_) (.bool r4)⟩⟩ | exact ⟨_, _, _, _, _, rfl, rfl, rfl, ⟨HBL.out.push #[.int .i64 r1, .slice P0 r2.length q0_, .slice P1 r3.length q1_, .bool r4] 24⟩⟩ | exact ⟨_, _, _, _, _, rfl, rfl, rfl, ⟨(HBL.out.push #[.int .i64 0, .slice none 0 0, .slice none 0 0, .bool false] 24).book4 (.int .i64 r1) (.slice P0 r2.length q0_) (.slice P1 r3.length q1_) (.bool r4)⟩⟩)
  case rest =>
    clear HE
    obtain ⟨g24, P0, q0_, P1, q1_, rfl, rfl, rfl, HE⟩ := hcut
    clear hwr_
    have hE := HE.out.lose1.lose1
    clear HE
    have HE := Aside0.mk hE
    clear hE
    have ne_ : (r6 == 0) = false := by simpa using HNE.out
    have ne2_ : (r6 != 0) = true := by simpa using HNE.out
    obtain rfl := H5.out
    have xg1_0 : wc.cell? ⟨g1, 0, none⟩ = some (.int .i64 t) := HE.out.at_ 4 0 rfl rfl
    have xg1_1 : wc.cell? ⟨g1, 1, none⟩ = some (.slice A0 l0.length p0) := HE.out.at_ 4 1 rfl rfl
    have xg1_2 : wc.cell? ⟨g1, 2, none⟩ = some (.slice A1 l1.length p1) := HE.out.at_ 4 2 rfl rfl
    have xg1_3 : wc.cell? ⟨g1, 3, none⟩ = some (.bool fl) := HE.out.at_ 4 3 rfl rfl
    have xg10_0 : wc.cell? ⟨g10, 0, none⟩ = some (.int .i64 0) := HE.out.at_ 2 0 rfl rfl
    have xg10_1 : wc.cell? ⟨g10, 1, none⟩ = some (.slice none 0 0) := HE.out.at_ 2 1 rfl rfl
    have xg10_2 : wc.cell? ⟨g10, 2, none⟩ = some (.slice none 0 0) := HE.out.at_ 2 2 rfl rfl
    have xg10_3 : wc.cell? ⟨g10, 3, none⟩ = some (.bool false) := HE.out.at_ 2 3 rfl rfl
    have fg10_0 : wc.frozen? ⟨g10, 0, none⟩ = false := HE.out.fr_ 2 0 rfl
    have fg10_1 : wc.frozen? ⟨g10, 1, none⟩ = false := HE.out.fr_ 2 1 rfl
    have fg10_2 : wc.frozen? ⟨g10, 2, none⟩ = false := HE.out.fr_ 2 2 rfl
    have fg10_3 : wc.frozen? ⟨g10, 3, none⟩ = false := HE.out.fr_ 2 3 rfl
    go_wp2_with fail
    have hE := (HE.out.sub (.cons _ (.cons _ (.cons_cons _ (.cons _ (.cons _ (List.Sublist.refl _)))))) (List.Sublist.refl _)).book4 (.int .i64 t) (.slice A0 l0.length p0) (.slice A1 l1.length p1) (.bool fl)
    clear xg1_0 xg1_1 xg1_2 xg1_3 xg10_0 xg10_1 xg10_2 xg10_3 fg10_0 fg10_1 fg10_2 fg10_3
    clear HE
    refine bodyPost_ret (results_ct rfl _ _ g10 24 #[.int .i64 t, .slice A0 l0.length p0, .slice A1 l1.length p1, .bool fl] (0, 0) _ rfl (hE.blk_ 0 rfl) Tryd.underlying24 rfl (by kernel_rfl)) rfl ?_
    exact ⟨by first | rfl | simp, hE.sub (.cons _ (List.Sublist.refl _)) (List.Sublist.refl _)⟩
set_option maxHeartbeats 16000000 in
set_option maxRecDepth 100000 in
theorem made_blame_free {w0 W : World} {B : List Bx} {gN : Nat} {bg ch : Nat → Bool} {s c t : Int} {A0 A1 : Option Addr} {p0 p1 : Nat} {l0 l1 : List S38} {fl : Bool} {x0 x1 x2 x3 : Int} {m r k : Nat} {tk tb : Int} (h : Env w0 (⟨gN, ncells bg ch s c, 56⟩ :: B) (⟨1, k38, 38, .slice A0 l0.length p0, l0⟩ :: ⟨2, k38, 38, .slice A1 l1.length p1, l1⟩ :: []) W) (hT : Tab w0) (hl0 : l0.length ≤ 6000000000000) (hl1 : l1.length ≤ 6000000000000)
    (hpk : winnowlaw19_picked.f x1 m r = some (tk, tb)) (hnu : winnowlaw19_number.f tk tb m = some (k : Int)) {rt mt n : Nat} {r2 r3 : List S38} {r4 : Bool} (hop : winnowlaw19_few.f x0 0 3 = some 3) (hm1 : 1 ≤ m) (hm2 : m ≤ 6) (hr1 : 1 ≤ r) (hr2 : r ≤ 6) (hmt : winnowlaw19_few.f x2 0 ((m : Int) - 1) = some (mt : Int)) (hrt : winnowlaw19_few.f x1 0 ((r : Int) - 1) = some (rt : Int)) (hxa : winnowlaw19_few.f x3 1 4 = some (n : Int)) (hb : blameP t l0 l1 fl rt mt n = (t, r2, r3, r4, false, 0)) (hsz : winnowlaw19_sized.f t r2 r3 r4 m r = some true) :
    Calls Tryd.prog 35 #[.pointer (some ⟨gN, 0, none⟩), .agg #[.int .i64 t, .slice A0 l0.length p0, .slice A1 l1.length p1, .bool fl], .agg #[.int .i64 x0, .int .i64 x1, .int .i64 x2, .int .i64 x3], .int .i64 m, .int .i64 r] W fun e W' => ∃ (P0 P1 : Option Addr) (q0_ q1_ : Nat), e = .returned (.tuple #[.agg #[.int .i64 t, .slice P0 r2.length q0_, .slice P1 r3.length q1_, .bool r4], .bool true]) ∧ Env w0 (⟨gN, ncells bg ch s c, 56⟩ :: B) (⟨3, k38, 38, .slice P0 r2.length q0_, r2⟩ :: ⟨4, k38, 38, .slice P1 r3.length q1_, r3⟩ :: ⟨1, k38, 38, .slice A0 l0.length p0, l0⟩ :: ⟨2, k38, 38, .slice A1 l1.length p1, l1⟩ :: []) W' := by
  have HH := Aside0.mk h
  have HPK := Aside0.mk hpk
  have HNU := Aside0.mk hnu
  have HT := Aside0.mk hT
  have HL0 := Aside0.mk hl0
  have HL1 := Aside0.mk hl1
  have HOP := Aside0.mk hop
  have HM1 := Aside0.mk hm1
  have HM2 := Aside0.mk hm2
  have HR1 := Aside0.mk hr1
  have HR2 := Aside0.mk hr2
  have HMT := Aside0.mk hmt
  have HRT := Aside0.mk hrt
  have HXA := Aside0.mk hxa
  have HB := Aside0.mk hb
  have HSZ := Aside0.mk hsz
  clear hpk hnu hT hl0 hl1 hop hm1 hm2 hr1 hr2 hmt hrt hxa hb hsz
  have z0 : (W.alloc (.cells #[.int .i64 t, .slice A0 l0.length p0, .slice A1 l1.length p1, .bool fl] 24)).heap.size = W.heap.size + 1 := by simp
  have z1 : ((W.alloc (.cells #[.int .i64 t, .slice A0 l0.length p0, .slice A1 l1.length p1, .bool fl] 24)).alloc (.cells #[.int .i64 x0, .int .i64 x1, .int .i64 x2, .int .i64 x3] 58)).heap.size = W.heap.size + 1 + 1 := by simp
  have hE0 := ((h.push #[.int .i64 t, .slice A0 l0.length p0, .slice A1 l1.length p1, .bool fl] 24).push #[.int .i64 x0, .int .i64 x1, .int .i64 x2, .int .i64 x3] 58).push #[.int .i64 0, .slice none 0 0, .slice none 0 0, .bool false] 24
  rw [z0, z1] at hE0
  clear z0 z1
  obtain ⟨g10, hg2⟩ : ∃ g, g = W.heap.size + 1 + 1 := ⟨_, rfl⟩
  obtain ⟨g2, hg1⟩ : ∃ g, g = W.heap.size + 1 := ⟨_, rfl⟩
  obtain ⟨g1, hg0⟩ : ∃ g, g = W.heap.size := ⟨_, rfl⟩
  rw [← hg2, ← hg1, ← hg0] at hE0
  obtain ⟨W0, hW0, hE⟩ : ∃ W0, ((W.alloc (.cells #[.int .i64 t, .slice A0 l0.length p0, .slice A1 l1.length p1, .bool fl] 24)).alloc (.cells #[.int .i64 x0, .int .i64 x1, .int .i64 x2, .int .i64 x3] 58)).alloc (.cells #[.int .i64 0, .slice none 0 0, .slice none 0 0, .bool false] 24) = W0 ∧ Env w0 _ _ W0 := ⟨_, rfl, hE0⟩
  have HG0 := Aside0.mk hg0
  have HG1 := Aside0.mk hg1
  have HG2 := Aside0.mk hg2
  have HW0 := Aside0.mk hW0
  have HE := Aside0.mk hE
  clear hE hE0 hW0 hg0 hg1 hg2
  clear h
  have hu24 := Tryd.underlying24
  have hu29 := Tryd.underlying29
  have hu56 := Tryd.underlying56
  have hu58 := Tryd.underlying58
  go_enter Tryd.func35, Tryd.ntmps35
  go_upto_region 1 with fail
  rw [← HG2.out, ← HG1.out, ← HG0.out, HW0.out]
  clear HW0 HG0 HG1 HG2
  have xg2_0 : W0.cell? ⟨g2, 0, none⟩ = some (.int .i64 x0) := HE.out.at_ 1 0 rfl rfl
  have xg2_1 : W0.cell? ⟨g2, 1, none⟩ = some (.int .i64 x1) := HE.out.at_ 1 1 rfl rfl
  have xg2_2 : W0.cell? ⟨g2, 2, none⟩ = some (.int .i64 x2) := HE.out.at_ 1 2 rfl rfl
  have xg2_3 : W0.cell? ⟨g2, 3, none⟩ = some (.int .i64 x3) := HE.out.at_ 1 3 rfl rfl
  go_wp2_with fail
  refine (winnowlaw19_picked.calls x1 m r tk tb _ HPK.out).mono ?_
  clear xg2_0 xg2_1 xg2_2 xg2_3
  rintro e w1 ⟨rfl, hB⟩
  have hE := HE.out.below hB
  clear HE hB
  have HE := Aside0.mk hE
  clear hE
  go_upto_region 2 with fail
  have hE := HE.out.push #[.int .i64 tk, .int .i64 tb] 29
  obtain ⟨g12, hg⟩ : ∃ g, g = w1.heap.size := ⟨_, rfl⟩
  rw [← hg] at hE ⊢
  generalize w1.alloc (.cells #[.int .i64 tk, .int .i64 tb] 29) = w2 at hE ⊢
  clear hg HE
  have HE := Aside0.mk hE
  clear hE
  have xg12_0 : w2.cell? ⟨g12, 0, none⟩ = some (.int .i64 tk) := HE.out.at_ 0 0 rfl rfl
  have xg12_1 : w2.cell? ⟨g12, 1, none⟩ = some (.int .i64 tb) := HE.out.at_ 0 1 rfl rfl
  go_wp2_with fail
  refine (winnowlaw19_number.calls tk tb m k _ HNU.out).mono ?_
  clear xg12_0 xg12_1
  rintro e w3 ⟨rfl, hB⟩
  have hE := HE.out.below hB
  clear HE hB
  have HE := Aside0.mk hE
  clear hE
  have xg2_0 : w3.cell? ⟨g2, 0, none⟩ = some (.int .i64 x0) := HE.out.at_ 2 0 rfl rfl
  have xg2_1 : w3.cell? ⟨g2, 1, none⟩ = some (.int .i64 x1) := HE.out.at_ 2 1 rfl rfl
  have xg2_2 : w3.cell? ⟨g2, 2, none⟩ = some (.int .i64 x2) := HE.out.at_ 2 2 rfl rfl
  have xg2_3 : w3.cell? ⟨g2, 3, none⟩ = some (.int .i64 x3) := HE.out.at_ 2 3 rfl rfl
  go_wp2_with fail
  refine (winnowlaw19_few.calls x0 0 3 3 _ HOP.out).mono ?_
  clear xg2_0 xg2_1 xg2_2 xg2_3
  rintro e w4 ⟨rfl, hB⟩
  have hE := HE.out.below hB.below
  clear HE hB
  have HE := Aside0.mk hE
  clear hE
  have hm_ : ((m : Int) == 0) = false := by have := HM1.out; simp; omega
  have hwm_ : IntKind.i64.wrap ((m : Int) - 1) = (m : Int) - 1 := by rw [IntKind.wrap_i64]; have := HM1.out; have := HM2.out; omega
  have xg2_0 : w4.cell? ⟨g2, 0, none⟩ = some (.int .i64 x0) := HE.out.at_ 2 0 rfl rfl
  have xg2_1 : w4.cell? ⟨g2, 1, none⟩ = some (.int .i64 x1) := HE.out.at_ 2 1 rfl rfl
  have xg2_2 : w4.cell? ⟨g2, 2, none⟩ = some (.int .i64 x2) := HE.out.at_ 2 2 rfl rfl
  have xg2_3 : w4.cell? ⟨g2, 3, none⟩ = some (.int .i64 x3) := HE.out.at_ 2 3 rfl rfl
  go_wp2_with fail
  refine (winnowlaw19_few.calls x2 0 ((m : Int) - 1) (mt : Int) _ HMT.out).mono ?_
  clear xg2_0 xg2_1 xg2_2 xg2_3
  rintro e w5 ⟨rfl, hB⟩
  have hE := HE.out.below hB.below
  clear HE hB
  have HE := Aside0.mk hE
  clear hE
  have xg2_0 : w5.cell? ⟨g2, 0, none⟩ = some (.int .i64 x0) := HE.out.at_ 2 0 rfl rfl
  have xg2_1 : w5.cell? ⟨g2, 1, none⟩ = some (.int .i64 x1) := HE.out.at_ 2 1 rfl rfl
  have xg2_2 : w5.cell? ⟨g2, 2, none⟩ = some (.int .i64 x2) := HE.out.at_ 2 2 rfl rfl
  have xg2_3 : w5.cell? ⟨g2, 3, none⟩ = some (.int .i64 x3) := HE.out.at_ 2 3 rfl rfl
  go_wp2_with fail
  refine (winnowlaw19_few.calls x3 1 4 n _ HXA.out).mono ?_
  clear xg2_0 xg2_1 xg2_2 xg2_3
  rintro e w6 ⟨rfl, hB⟩
  have hE := HE.out.below hB.below
  clear HE hB
  have HE := Aside0.mk hE
  clear hE
  clear hwm_ hm_
  go_upto_region 23 with fail
  have hwr_ : IntKind.i64.wrap ((r : Int) - 1) = (r : Int) - 1 := by rw [IntKind.wrap_i64]; have := HR1.out; have := HR2.out; omega
  go_cut [24, 25, 26] (fun s0 s1 s2 wx => ∃ (g24 : Nat) (P0 : Option Addr) (q0_ : Nat) (P1 : Option Addr) (q1_ : Nat), s0 = .pointer (some ⟨g24, 0, none⟩) ∧ s1 = .bool false ∧ s2 = .int .i64 0 ∧ Aside0 (Env w0 (⟨g24, #[.int .i64 t, .slice P0 r2.length q0_, .slice P1 r3.length q1_, .bool r4], 24⟩ :: ⟨g12, #[.int .i64 tk, .int .i64 tb], 29⟩ :: ⟨g10, #[.int .i64 0, .slice none 0 0, .slice none 0 0, .bool false], 24⟩ :: ⟨g2, #[.int .i64 x0, .int .i64 x1, .int .i64 x2, .int .i64 x3], 58⟩ :: ⟨g1, #[.int .i64 t, .slice A0 l0.length p0, .slice A1 l1.length p1, .bool fl], 24⟩ :: ⟨gN, ncells bg ch s c, 56⟩ :: B) (⟨3, k38, 38, .slice P0 r2.length q0_, r2⟩ :: ⟨4, k38, 38, .slice P1 r3.length q1_, r3⟩ :: ⟨1, k38, 38, .slice A0 l0.length p0, l0⟩ :: ⟨2, k38, 38, .slice A1 l1.length p1, l1⟩ :: []) wx))
  case first =>
    have HSX := Aside0.mk (fun (w' : World) (h : Env w0 (⟨g12, #[.int .i64 tk, .int .i64 tb], 29⟩ :: ⟨g10, #[.int .i64 0, .slice none 0 0, .slice none 0 0, .bool false], 24⟩ :: ⟨g2, #[.int .i64 x0, .int .i64 x1, .int .i64 x2, .int .i64 x3], 58⟩ :: ⟨g1, #[.int .i64 t, .slice A0 l0.length p0, .slice A1 l1.length p1, .bool fl], 24⟩ :: ⟨gN, ncells bg ch s c, 56⟩ :: B) [] w') => (show w'.cell? ⟨g2, 0, none⟩ = some (.int .i64 x0) ∧ w'.cell? ⟨g2, 1, none⟩ = some (.int .i64 x1) ∧ w'.cell? ⟨g2, 2, none⟩ = some (.int .i64 x2) ∧ w'.cell? ⟨g2, 3, none⟩ = some (.int .i64 x3) ∧ w'.cell? ⟨g1, 0, none⟩ = some (.int .i64 t) ∧ w'.cell? ⟨g1, 1, none⟩ = some (.slice A0 l0.length p0) ∧ w'.cell? ⟨g1, 2, none⟩ = some (.slice A1 l1.length p1) ∧ w'.cell? ⟨g1, 3, none⟩ = some (.bool fl) from ⟨h.at_ 2 0 rfl rfl, h.at_ 2 1 rfl rfl, h.at_ 2 2 rfl rfl, h.at_ 2 3 rfl rfl, h.at_ 3 0 rfl rfl, h.at_ 3 1 rfl rfl, h.at_ 3 2 rfl rfl, h.at_ 3 3 rfl rfl⟩))
    go_region_held3 (fun w' => w'.cell? ⟨g2, 0, none⟩ = some (.int .i64 x0) ∧ w'.cell? ⟨g2, 1, none⟩ = some (.int .i64 x1) ∧ w'.cell? ⟨g2, 2, none⟩ = some (.int .i64 x2) ∧ w'.cell? ⟨g2, 3, none⟩ = some (.int .i64 x3) ∧ w'.cell? ⟨g1, 0, none⟩ = some (.int .i64 t) ∧ w'.cell? ⟨g1, 1, none⟩ = some (.slice A0 l0.length p0) ∧ w'.cell? ⟨g1, 2, none⟩ = some (.slice A1 l1.length p1) ∧ w'.cell? ⟨g1, 3, none⟩ = some (.bool fl)) (first
        | exact HSX.out _ (HBL.out.push #[.int .i64 t, .slice P0 r2.length q0_, .slice P1 r3.length q1_, .bool r4] 24).bare1
        | exact HSX.out _ HBL.out.bare
        | exact HSX.out _ HBL.out.bare1
        | exact HSX.out _ (HBL.out.push #[.int .i64 0, .slice none 0 0, .slice none 0 0, .bool false] 24).bare1
        | exact HSX.out _ HBL.out.drew.bare
        | exact HSX.out _ HBL.out.drew.bare1
        | exact HSX.out _ (HBL.out.push #[.int .i64 0, .slice none 0 0, .slice none 0 0, .bool false] 24).drew.bare1
        | exact HSX.out _ HF.out.bare
        | exact HSX.out _ HF.out.bare1
        | exact HSX.out _ (HF.out.push #[.int .i64 0, .slice none 0 0, .slice none 0 0, .bool false] 24).bare1
        | exact HSX.out _ HF.out.drew.bare
        | exact HSX.out _ HF.out.drew.bare1
        | exact HSX.out _ (HF.out.push #[.int .i64 0, .slice none 0 0, .slice none 0 0, .bool false] 24).drew.bare1
        | exact HSX.out _ HE.out.bare
        | exact HSX.out _ HE.out.bare1
        | exact HSX.out _ (HE.out.push #[.int .i64 0, .slice none 0 0, .slice none 0 0, .bool false] 24).bare1
        | exact HSX.out _ HE.out.drew.bare
        | exact HSX.out _ HE.out.drew.bare1
        | exact HSX.out _ (HE.out.push #[.int .i64 0, .slice none 0 0, .slice none 0 0, .bool false] 24).drew.bare1
        | exact HSX.out _ (HBL.out.book4 (.int .i64 t) (.slice P0 r2.length q0_) (.slice P1 r3.length q1_) (.bool r4)).bare1
        | exact HSX.out _ ((HBL.out.push #[.int .i64 0, .slice none 0 0, .slice none 0 0, .bool false] 24).book4 (.int .i64 t) (.slice P0 r2.length q0_) (.slice P1 r3.length q1_) (.bool r4)).bare1) (first
        | ((go_at_call 32; (with_reducible refine (winnowlaw19_few.calls x1 0 ((r : Int) - 1) (rt : Int) _ HRT.out).mono ?_); rintro e w_HF ⟨rfl, hB⟩; have HF := Aside0.mk ((HE.out.drew).below hB.below); clear hB))
        | ((go_at_call 32; (with_reducible refine (winnowlaw19_few.calls x1 0 ((r : Int) - 1) (rt : Int) _ HRT.out).mono ?_); rintro e w_HF ⟨rfl, hB⟩; have HF := Aside0.mk (((HE.out.push #[.int .i64 0, .slice none 0 0, .slice none 0 0, .bool false] 24).drew).below hB.below); clear hB))
        | ((go_at_call 30; (with_reducible refine (blame_any t fl _ _ l0 _ _ l1 rt mt n t r2 r3 r4 false 0 _ ((HF.out).row_ 0 rfl) ((HF.out).row_ 1 rfl) HL0.out HL1.out ((HF.out).tab HT.out) HB.out).mono ?_); rintro e w_HBL ⟨v0, v1, rfl, s0, s1, hB⟩; have hE := (HF.out).rows2 hB rfl s0 s1 3 4 (show ([3, 4, 1, 2] : List Nat).Nodup from by decide) (by decide) (by decide); obtain ⟨P0, q0_, rfl⟩ := Kd.R_slice s0; obtain ⟨P1, q1_, rfl⟩ := Kd.R_slice s1; have HBL := Aside0.mk hE; clear hB s0 s1 hE; (try have y0_ : World.cell? _ ⟨_, 0, none⟩ = some (.int .i64 0) := HBL.out.at_ 0 0 rfl rfl); (try have y1_ : World.cell? _ ⟨_, 1, none⟩ = some (.slice none 0 0) := HBL.out.at_ 0 1 rfl rfl); (try have y2_ : World.cell? _ ⟨_, 2, none⟩ = some (.slice none 0 0) := HBL.out.at_ 0 2 rfl rfl); (try have y3_ : World.cell? _ ⟨_, 3, none⟩ = some (.bool false) := HBL.out.at_ 0 3 rfl rfl); (try have f0_ := HBL.out.fr_ 0 0 (cs := #[.int .i64 0, .slice none 0 0, .slice none 0 0, .bool false]) rfl); (try have f1_ := HBL.out.fr_ 0 1 (cs := #[.int .i64 0, .slice none 0 0, .slice none 0 0, .bool false]) rfl); (try have f2_ := HBL.out.fr_ 0 2 (cs := #[.int .i64 0, .slice none 0 0, .slice none 0 0, .bool false]) rfl); (try have f3_ := HBL.out.fr_ 0 3 (cs := #[.int .i64 0, .slice none 0 0, .slice none 0 0, .bool false]) rfl)))
        | ((go_at_call 30; (with_reducible refine (blame_any t fl _ _ l0 _ _ l1 rt mt n t r2 r3 r4 false 0 _ (((HF.out.push #[.int .i64 0, .slice none 0 0, .slice none 0 0, .bool false] 24)).row_ 0 rfl) (((HF.out.push #[.int .i64 0, .slice none 0 0, .slice none 0 0, .bool false] 24)).row_ 1 rfl) HL0.out HL1.out (((HF.out.push #[.int .i64 0, .slice none 0 0, .slice none 0 0, .bool false] 24)).tab HT.out) HB.out).mono ?_); rintro e w_HBL ⟨v0, v1, rfl, s0, s1, hB⟩; have hE := ((HF.out.push #[.int .i64 0, .slice none 0 0, .slice none 0 0, .bool false] 24)).rows2 hB rfl s0 s1 3 4 (show ([3, 4, 1, 2] : List Nat).Nodup from by decide) (by decide) (by decide); obtain ⟨P0, q0_, rfl⟩ := Kd.R_slice s0; obtain ⟨P1, q1_, rfl⟩ := Kd.R_slice s1; have HBL := Aside0.mk hE; clear hB s0 s1 hE; (try have y0_ : World.cell? _ ⟨_, 0, none⟩ = some (.int .i64 0) := HBL.out.at_ 0 0 rfl rfl); (try have y1_ : World.cell? _ ⟨_, 1, none⟩ = some (.slice none 0 0) := HBL.out.at_ 0 1 rfl rfl); (try have y2_ : World.cell? _ ⟨_, 2, none⟩ = some (.slice none 0 0) := HBL.out.at_ 0 2 rfl rfl); (try have y3_ : World.cell? _ ⟨_, 3, none⟩ = some (.bool false) := HBL.out.at_ 0 3 rfl rfl); (try have f0_ := HBL.out.fr_ 0 0 (cs := #[.int .i64 0, .slice none 0 0, .slice none 0 0, .bool false]) rfl); (try have f1_ := HBL.out.fr_ 0 1 (cs := #[.int .i64 0, .slice none 0 0, .slice none 0 0, .bool false]) rfl); (try have f2_ := HBL.out.fr_ 0 2 (cs := #[.int .i64 0, .slice none 0 0, .slice none 0 0, .bool false]) rfl); (try have f3_ := HBL.out.fr_ 0 3 (cs := #[.int .i64 0, .slice none 0 0, .slice none 0 0, .bool false]) rfl))))
    all_goals (go_wp2_with fail; go_meet; first | exact ⟨_, _, _, _, _, rfl, rfl, rfl, ⟨HBL.out.book4 (.int .i64 t) (.slice P0 r2.length q0_) (.slice P1 r3.length q1_) (.bool r4)⟩⟩ | exact ⟨_, _, _, _, _, rfl, rfl, rfl, ⟨HBL.out.push #[.int .i64 t, .slice P0 r2.length q0_, .slice P1 r3.length q1_, .bool r4] 24⟩⟩ | exact ⟨_, _, _, _, _, rfl, rfl, rfl, ⟨(HBL.out.push #[.int .i64 0, .slice none 0 0, .slice none 0 0, .bool false] 24).book4 (.int .i64 t) (.slice P0 r2.length q0_) (.slice P1 r3.length q1_) (.bool r4)⟩⟩)
  case rest =>
    clear HE
    obtain ⟨g24, P0, q0_, P1, q1_, rfl, rfl, rfl, HE⟩ := hcut
    clear hwr_
    go_upto_region 28 with fail
    have HSX := Aside0.mk (fun (w' : World) (z n : Bx) (h : Env w0 (⟨g24, #[.int .i64 t, .slice P0 r2.length q0_, .slice P1 r3.length q1_, .bool r4], 24⟩ :: ⟨g12, #[.int .i64 tk, .int .i64 tb], 29⟩ :: z :: ⟨g2, #[.int .i64 x0, .int .i64 x1, .int .i64 x2, .int .i64 x3], 58⟩ :: ⟨g1, #[.int .i64 t, .slice A0 l0.length p0, .slice A1 l1.length p1, .bool fl], 24⟩ :: n :: B) [] w') => (show w'.cell? ⟨g24, 0, none⟩ = some (.int .i64 t) ∧ w'.cell? ⟨g24, 1, none⟩ = some (.slice P0 r2.length q0_) ∧ w'.cell? ⟨g24, 2, none⟩ = some (.slice P1 r3.length q1_) ∧ w'.cell? ⟨g24, 3, none⟩ = some (.bool r4) from ⟨h.at_ 0 0 rfl rfl, h.at_ 0 1 rfl rfl, h.at_ 0 2 rfl rfl, h.at_ 0 3 rfl rfl⟩))
    have f10_0 : wc.frozen? ⟨g10, 0, none⟩ = false := HE.out.fr_ 2 0 rfl
    have z10_0 : wc.cell? ⟨g10, 0, none⟩ = some (.int .i64 0) := HE.out.at_ 2 0 rfl rfl
    have f10_1 : wc.frozen? ⟨g10, 1, none⟩ = false := HE.out.fr_ 2 1 rfl
    have z10_1 : wc.cell? ⟨g10, 1, none⟩ = some (.slice none 0 0) := HE.out.at_ 2 1 rfl rfl
    have f10_2 : wc.frozen? ⟨g10, 2, none⟩ = false := HE.out.fr_ 2 2 rfl
    have z10_2 : wc.cell? ⟨g10, 2, none⟩ = some (.slice none 0 0) := HE.out.at_ 2 2 rfl rfl
    have f10_3 : wc.frozen? ⟨g10, 3, none⟩ = false := HE.out.fr_ 2 3 rfl
    have z10_3 : wc.cell? ⟨g10, 3, none⟩ = some (.bool false) := HE.out.at_ 2 3 rfl rfl
    go_region_held3 (fun w' => w'.cell? ⟨g24, 0, none⟩ = some (.int .i64 t) ∧ w'.cell? ⟨g24, 1, none⟩ = some (.slice P0 r2.length q0_) ∧ w'.cell? ⟨g24, 2, none⟩ = some (.slice P1 r3.length q1_) ∧ w'.cell? ⟨g24, 3, none⟩ = some (.bool r4)) (first
        | (with_reducible exact HSX.out _ _ _ HA.out.bare)
        | (with_reducible exact HSX.out _ _ _ HA.out.drew.bare)
        | (with_reducible exact HSX.out _ _ _ (HA.out.st2 (.int .i64 t) (.slice P0 r2.length q0_) (.slice P1 r3.length q1_) (.bool r4)).bare)
        | (with_reducible exact HSX.out _ _ _ (HA.out.st2 (.int .i64 t) (.slice P0 r2.length q0_) (.slice P1 r3.length q1_) (.bool r4)).drew.bare)
        | (with_reducible exact HSX.out _ _ _ HE.out.bare)
        | (with_reducible exact HSX.out _ _ _ HE.out.drew.bare)
        | (with_reducible exact HSX.out _ _ _ (HE.out.st2 (.int .i64 t) (.slice P0 r2.length q0_) (.slice P1 r3.length q1_) (.bool r4)).bare)
        | (with_reducible exact HSX.out _ _ _ (HE.out.st2 (.int .i64 t) (.slice P0 r2.length q0_) (.slice P1 r3.length q1_) (.bool r4)).drew.bare)) (first
        | ((go_at_call 34; (with_reducible refine (winnowlaw19_sized.calls t P0 q0_ r2 P1 q1_ r3 r4 m r true _ (((HE.out.drew)).row_ 0 rfl) (((HE.out.drew)).cap_ 0 rfl).2 (((HE.out.drew)).row_ 1 rfl) (((HE.out.drew)).cap_ 1 rfl).2 HSZ.out).mono ?_); rintro e w_HA ⟨rfl, hB⟩; have HA := Aside0.mk (((HE.out.drew)).below hB); clear hB; (try have f0_HA := HA.out.fr_ 2 0 rfl); (try have z0_HA := HA.out.at_ 2 0 rfl rfl); (try have f1_HA := HA.out.fr_ 2 1 rfl); (try have z1_HA := HA.out.at_ 2 1 rfl rfl); (try have f2_HA := HA.out.fr_ 2 2 rfl); (try have z2_HA := HA.out.at_ 2 2 rfl rfl); (try have f3_HA := HA.out.fr_ 2 3 rfl); (try have z3_HA := HA.out.at_ 2 3 rfl rfl)))
        | ((go_at_call 34; (with_reducible refine (winnowlaw19_sized.calls t P0 q0_ r2 P1 q1_ r3 r4 m r true _ (((HE.out.st2 (.int .i64 t) (.slice P0 r2.length q0_) (.slice P1 r3.length q1_) (.bool r4)).drew).row_ 0 rfl) (((HE.out.st2 (.int .i64 t) (.slice P0 r2.length q0_) (.slice P1 r3.length q1_) (.bool r4)).drew).cap_ 0 rfl).2 (((HE.out.st2 (.int .i64 t) (.slice P0 r2.length q0_) (.slice P1 r3.length q1_) (.bool r4)).drew).row_ 1 rfl) (((HE.out.st2 (.int .i64 t) (.slice P0 r2.length q0_) (.slice P1 r3.length q1_) (.bool r4)).drew).cap_ 1 rfl).2 HSZ.out).mono ?_); rintro e w_HA ⟨rfl, hB⟩; have HA := Aside0.mk (((HE.out.st2 (.int .i64 t) (.slice P0 r2.length q0_) (.slice P1 r3.length q1_) (.bool r4)).drew).below hB); clear hB; (try have f0_HA := HA.out.fr_ 2 0 rfl); (try have z0_HA := HA.out.at_ 2 0 rfl rfl); (try have f1_HA := HA.out.fr_ 2 1 rfl); (try have z1_HA := HA.out.at_ 2 1 rfl rfl); (try have f2_HA := HA.out.fr_ 2 2 rfl); (try have z2_HA := HA.out.at_ 2 2 rfl rfl); (try have f3_HA := HA.out.fr_ 2 3 rfl); (try have z3_HA := HA.out.at_ 2 3 rfl rfl))))
    all_goals (go_wp2_with fail; first
      | (have hE := HA.out; refine bodyPost_ret (results_ct rfl _ _ g10 24 #[.int .i64 t, .slice P0 r2.length q0_, .slice P1 r3.length q1_, .bool r4] (0, 0) _ rfl (hE.blk_ 2 rfl) Tryd.underlying24 rfl (by kernel_rfl)) rfl ?_; exact ⟨_, _, _, _, by first | simp; done | rfl, hE.sub (.cons _ (.cons _ (.cons _ (.cons _ (.cons _ (List.Sublist.refl _)))))) (List.Sublist.refl _)⟩)
      | (have hE := (HA.out.st2 (.int .i64 t) (.slice P0 r2.length q0_) (.slice P1 r3.length q1_) (.bool r4)); refine bodyPost_ret (results_ct rfl _ _ g10 24 #[.int .i64 t, .slice P0 r2.length q0_, .slice P1 r3.length q1_, .bool r4] (0, 0) _ rfl (hE.blk_ 2 rfl) Tryd.underlying24 rfl (by kernel_rfl)) rfl ?_; exact ⟨_, _, _, _, by first | simp; done | rfl, hE.sub (.cons _ (.cons _ (.cons _ (.cons _ (.cons _ (List.Sublist.refl _)))))) (List.Sublist.refl _)⟩))
end Go.Proofs.YtponmfnegdlppaaDoor.P

end
section
/- made: a move on a book, path by path (printed by HMade.gen.py). -/
namespace Go.Proofs.YtponmfnegdlppaaDoor.P
open Go.RowKit Go.Proofs.YtponmfnegdlppaaDoorW.PrintWords Go.Proofs.YtponmfnegdlppaaDoorW.PrintLast Go.Proofs.YtponmfnegdlppaaDoorW.PrintMore
set_option linter.unusedVariables false
set_option linter.unusedSimpArgs false

set_option maxHeartbeats 16000000 in
set_option maxRecDepth 100000 in
theorem made_blame_charge {w0 W : World} {B : List Bx} {gN : Nat} {bg ch : Nat → Bool} {s c t : Int} {A0 A1 : Option Addr} {p0 p1 : Nat} {l0 l1 : List S38} {fl : Bool} {x0 x1 x2 x3 : Int} {m r k : Nat} {tk tb : Int} (h : Env w0 (⟨gN, ncells bg ch s c, 56⟩ :: B) (⟨1, k38, 38, .slice A0 l0.length p0, l0⟩ :: ⟨2, k38, 38, .slice A1 l1.length p1, l1⟩ :: []) W) (hT : Tab w0) (hl0 : l0.length ≤ 6000000000000) (hl1 : l1.length ≤ 6000000000000)
    (hpk : winnowlaw19_picked.f x1 m r = some (tk, tb)) (hnu : winnowlaw19_number.f tk tb m = some (k : Int)) {rt mt n : Nat} {r2 r3 : List S38} {r4 : Bool} (hop : winnowlaw19_few.f x0 0 3 = some 3) (hm1 : 1 ≤ m) (hm2 : m ≤ 6) (hr1 : 1 ≤ r) (hr2 : r ≤ 6) (hmt : winnowlaw19_few.f x2 0 ((m : Int) - 1) = some (mt : Int)) (hrt : winnowlaw19_few.f x1 0 ((r : Int) - 1) = some (rt : Int)) (hxa : winnowlaw19_few.f x3 1 4 = some (n : Int)) (hb : blameP t l0 l1 fl rt mt n = (t, r2, r3, r4, true, 0)) (hsz : winnowlaw19_sized.f t r2 r3 r4 m r = some true) (hmk : mt < 16) (hn1 : 1 ≤ n) (hn2 : n ≤ 16) (hbg : bg (mt * 17 + n) = true) (hch : ch (mt * 17 + n) = false) (hs : 0 ≤ c ∧ c ≤ 1000000000000) :
    Calls Tryd.prog 35 #[.pointer (some ⟨gN, 0, none⟩), .agg #[.int .i64 t, .slice A0 l0.length p0, .slice A1 l1.length p1, .bool fl], .agg #[.int .i64 x0, .int .i64 x1, .int .i64 x2, .int .i64 x3], .int .i64 m, .int .i64 r] W fun e W' => ∃ (P0 P1 : Option Addr) (q0_ q1_ : Nat), e = .returned (.tuple #[.agg #[.int .i64 t, .slice P0 r2.length q0_, .slice P1 r3.length q1_, .bool r4], .bool true]) ∧ Env w0 (⟨gN, ncells bg (upd ch (mt * 17 + n)) s (c + 1), 56⟩ :: B) (⟨3, k38, 38, .slice P0 r2.length q0_, r2⟩ :: ⟨4, k38, 38, .slice P1 r3.length q1_, r3⟩ :: ⟨1, k38, 38, .slice A0 l0.length p0, l0⟩ :: ⟨2, k38, 38, .slice A1 l1.length p1, l1⟩ :: []) W' := by
  have HH := Aside0.mk h
  have HPK := Aside0.mk hpk
  have HNU := Aside0.mk hnu
  have HT := Aside0.mk hT
  have HL0 := Aside0.mk hl0
  have HL1 := Aside0.mk hl1
  have HOP := Aside0.mk hop
  have HM1 := Aside0.mk hm1
  have HM2 := Aside0.mk hm2
  have HR1 := Aside0.mk hr1
  have HR2 := Aside0.mk hr2
  have HMT := Aside0.mk hmt
  have HRT := Aside0.mk hrt
  have HXA := Aside0.mk hxa
  have HB := Aside0.mk hb
  have HSZ := Aside0.mk hsz
  have HMK := Aside0.mk hmk
  have HN1 := Aside0.mk hn1
  have HN2 := Aside0.mk hn2
  have HBG := Aside0.mk hbg
  have HCH := Aside0.mk hch
  have HS := Aside0.mk hs
  clear hpk hnu hT hl0 hl1 hop hm1 hm2 hr1 hr2 hmt hrt hxa hb hsz hmk hn1 hn2 hbg hch hs
  have z0 : (W.alloc (.cells #[.int .i64 t, .slice A0 l0.length p0, .slice A1 l1.length p1, .bool fl] 24)).heap.size = W.heap.size + 1 := by simp
  have z1 : ((W.alloc (.cells #[.int .i64 t, .slice A0 l0.length p0, .slice A1 l1.length p1, .bool fl] 24)).alloc (.cells #[.int .i64 x0, .int .i64 x1, .int .i64 x2, .int .i64 x3] 58)).heap.size = W.heap.size + 1 + 1 := by simp
  have hE0 := ((h.push #[.int .i64 t, .slice A0 l0.length p0, .slice A1 l1.length p1, .bool fl] 24).push #[.int .i64 x0, .int .i64 x1, .int .i64 x2, .int .i64 x3] 58).push #[.int .i64 0, .slice none 0 0, .slice none 0 0, .bool false] 24
  rw [z0, z1] at hE0
  clear z0 z1
  obtain ⟨g10, hg2⟩ : ∃ g, g = W.heap.size + 1 + 1 := ⟨_, rfl⟩
  obtain ⟨g2, hg1⟩ : ∃ g, g = W.heap.size + 1 := ⟨_, rfl⟩
  obtain ⟨g1, hg0⟩ : ∃ g, g = W.heap.size := ⟨_, rfl⟩
  rw [← hg2, ← hg1, ← hg0] at hE0
  obtain ⟨W0, hW0, hE⟩ : ∃ W0, ((W.alloc (.cells #[.int .i64 t, .slice A0 l0.length p0, .slice A1 l1.length p1, .bool fl] 24)).alloc (.cells #[.int .i64 x0, .int .i64 x1, .int .i64 x2, .int .i64 x3] 58)).alloc (.cells #[.int .i64 0, .slice none 0 0, .slice none 0 0, .bool false] 24) = W0 ∧ Env w0 _ _ W0 := ⟨_, rfl, hE0⟩
  have HG0 := Aside0.mk hg0
  have HG1 := Aside0.mk hg1
  have HG2 := Aside0.mk hg2
  have HW0 := Aside0.mk hW0
  have HE := Aside0.mk hE
  clear hE hE0 hW0 hg0 hg1 hg2
  clear h
  have hu24 := Tryd.underlying24
  have hu29 := Tryd.underlying29
  have hu56 := Tryd.underlying56
  have hu58 := Tryd.underlying58
  go_enter Tryd.func35, Tryd.ntmps35
  go_upto_region 1 with fail
  rw [← HG2.out, ← HG1.out, ← HG0.out, HW0.out]
  clear HW0 HG0 HG1 HG2
  have xg2_0 : W0.cell? ⟨g2, 0, none⟩ = some (.int .i64 x0) := HE.out.at_ 1 0 rfl rfl
  have xg2_1 : W0.cell? ⟨g2, 1, none⟩ = some (.int .i64 x1) := HE.out.at_ 1 1 rfl rfl
  have xg2_2 : W0.cell? ⟨g2, 2, none⟩ = some (.int .i64 x2) := HE.out.at_ 1 2 rfl rfl
  have xg2_3 : W0.cell? ⟨g2, 3, none⟩ = some (.int .i64 x3) := HE.out.at_ 1 3 rfl rfl
  go_wp2_with fail
  refine (winnowlaw19_picked.calls x1 m r tk tb _ HPK.out).mono ?_
  clear xg2_0 xg2_1 xg2_2 xg2_3
  rintro e w1 ⟨rfl, hB⟩
  have hE := HE.out.below hB
  clear HE hB
  have HE := Aside0.mk hE
  clear hE
  go_upto_region 2 with fail
  have hE := HE.out.push #[.int .i64 tk, .int .i64 tb] 29
  obtain ⟨g12, hg⟩ : ∃ g, g = w1.heap.size := ⟨_, rfl⟩
  rw [← hg] at hE ⊢
  generalize w1.alloc (.cells #[.int .i64 tk, .int .i64 tb] 29) = w2 at hE ⊢
  clear hg HE
  have HE := Aside0.mk hE
  clear hE
  have xg12_0 : w2.cell? ⟨g12, 0, none⟩ = some (.int .i64 tk) := HE.out.at_ 0 0 rfl rfl
  have xg12_1 : w2.cell? ⟨g12, 1, none⟩ = some (.int .i64 tb) := HE.out.at_ 0 1 rfl rfl
  go_wp2_with fail
  refine (winnowlaw19_number.calls tk tb m k _ HNU.out).mono ?_
  clear xg12_0 xg12_1
  rintro e w3 ⟨rfl, hB⟩
  have hE := HE.out.below hB
  clear HE hB
  have HE := Aside0.mk hE
  clear hE
  have xg2_0 : w3.cell? ⟨g2, 0, none⟩ = some (.int .i64 x0) := HE.out.at_ 2 0 rfl rfl
  have xg2_1 : w3.cell? ⟨g2, 1, none⟩ = some (.int .i64 x1) := HE.out.at_ 2 1 rfl rfl
  have xg2_2 : w3.cell? ⟨g2, 2, none⟩ = some (.int .i64 x2) := HE.out.at_ 2 2 rfl rfl
  have xg2_3 : w3.cell? ⟨g2, 3, none⟩ = some (.int .i64 x3) := HE.out.at_ 2 3 rfl rfl
  go_wp2_with fail
  refine (winnowlaw19_few.calls x0 0 3 3 _ HOP.out).mono ?_
  clear xg2_0 xg2_1 xg2_2 xg2_3
  rintro e w4 ⟨rfl, hB⟩
  have hE := HE.out.below hB.below
  clear HE hB
  have HE := Aside0.mk hE
  clear hE
  have hm_ : ((m : Int) == 0) = false := by have := HM1.out; simp; omega
  have hwm_ : IntKind.i64.wrap ((m : Int) - 1) = (m : Int) - 1 := by rw [IntKind.wrap_i64]; have := HM1.out; have := HM2.out; omega
  have xg2_0 : w4.cell? ⟨g2, 0, none⟩ = some (.int .i64 x0) := HE.out.at_ 2 0 rfl rfl
  have xg2_1 : w4.cell? ⟨g2, 1, none⟩ = some (.int .i64 x1) := HE.out.at_ 2 1 rfl rfl
  have xg2_2 : w4.cell? ⟨g2, 2, none⟩ = some (.int .i64 x2) := HE.out.at_ 2 2 rfl rfl
  have xg2_3 : w4.cell? ⟨g2, 3, none⟩ = some (.int .i64 x3) := HE.out.at_ 2 3 rfl rfl
  go_wp2_with fail
  refine (winnowlaw19_few.calls x2 0 ((m : Int) - 1) (mt : Int) _ HMT.out).mono ?_
  clear xg2_0 xg2_1 xg2_2 xg2_3
  rintro e w5 ⟨rfl, hB⟩
  have hE := HE.out.below hB.below
  clear HE hB
  have HE := Aside0.mk hE
  clear hE
  have xg2_0 : w5.cell? ⟨g2, 0, none⟩ = some (.int .i64 x0) := HE.out.at_ 2 0 rfl rfl
  have xg2_1 : w5.cell? ⟨g2, 1, none⟩ = some (.int .i64 x1) := HE.out.at_ 2 1 rfl rfl
  have xg2_2 : w5.cell? ⟨g2, 2, none⟩ = some (.int .i64 x2) := HE.out.at_ 2 2 rfl rfl
  have xg2_3 : w5.cell? ⟨g2, 3, none⟩ = some (.int .i64 x3) := HE.out.at_ 2 3 rfl rfl
  go_wp2_with fail
  refine (winnowlaw19_few.calls x3 1 4 n _ HXA.out).mono ?_
  clear xg2_0 xg2_1 xg2_2 xg2_3
  rintro e w6 ⟨rfl, hB⟩
  have hE := HE.out.below hB.below
  clear HE hB
  have HE := Aside0.mk hE
  clear hE
  clear hwm_ hm_
  go_upto_region 23 with fail
  have hwr_ : IntKind.i64.wrap ((r : Int) - 1) = (r : Int) - 1 := by rw [IntKind.wrap_i64]; have := HR1.out; have := HR2.out; omega
  go_cut [24, 25, 26] (fun s0 s1 s2 wx => ∃ (g24 : Nat) (P0 : Option Addr) (q0_ : Nat) (P1 : Option Addr) (q1_ : Nat), s0 = .pointer (some ⟨g24, 0, none⟩) ∧ s1 = .bool true ∧ s2 = .int .i64 0 ∧ Aside0 (Env w0 (⟨g24, #[.int .i64 t, .slice P0 r2.length q0_, .slice P1 r3.length q1_, .bool r4], 24⟩ :: ⟨g12, #[.int .i64 tk, .int .i64 tb], 29⟩ :: ⟨g10, #[.int .i64 0, .slice none 0 0, .slice none 0 0, .bool false], 24⟩ :: ⟨g2, #[.int .i64 x0, .int .i64 x1, .int .i64 x2, .int .i64 x3], 58⟩ :: ⟨g1, #[.int .i64 t, .slice A0 l0.length p0, .slice A1 l1.length p1, .bool fl], 24⟩ :: ⟨gN, ncells bg ch s c, 56⟩ :: B) (⟨3, k38, 38, .slice P0 r2.length q0_, r2⟩ :: ⟨4, k38, 38, .slice P1 r3.length q1_, r3⟩ :: ⟨1, k38, 38, .slice A0 l0.length p0, l0⟩ :: ⟨2, k38, 38, .slice A1 l1.length p1, l1⟩ :: []) wx))
  case first =>
    have HSX := Aside0.mk (fun (w' : World) (h : Env w0 (⟨g12, #[.int .i64 tk, .int .i64 tb], 29⟩ :: ⟨g10, #[.int .i64 0, .slice none 0 0, .slice none 0 0, .bool false], 24⟩ :: ⟨g2, #[.int .i64 x0, .int .i64 x1, .int .i64 x2, .int .i64 x3], 58⟩ :: ⟨g1, #[.int .i64 t, .slice A0 l0.length p0, .slice A1 l1.length p1, .bool fl], 24⟩ :: ⟨gN, ncells bg ch s c, 56⟩ :: B) [] w') => (show w'.cell? ⟨g2, 0, none⟩ = some (.int .i64 x0) ∧ w'.cell? ⟨g2, 1, none⟩ = some (.int .i64 x1) ∧ w'.cell? ⟨g2, 2, none⟩ = some (.int .i64 x2) ∧ w'.cell? ⟨g2, 3, none⟩ = some (.int .i64 x3) ∧ w'.cell? ⟨g1, 0, none⟩ = some (.int .i64 t) ∧ w'.cell? ⟨g1, 1, none⟩ = some (.slice A0 l0.length p0) ∧ w'.cell? ⟨g1, 2, none⟩ = some (.slice A1 l1.length p1) ∧ w'.cell? ⟨g1, 3, none⟩ = some (.bool fl) from ⟨h.at_ 2 0 rfl rfl, h.at_ 2 1 rfl rfl, h.at_ 2 2 rfl rfl, h.at_ 2 3 rfl rfl, h.at_ 3 0 rfl rfl, h.at_ 3 1 rfl rfl, h.at_ 3 2 rfl rfl, h.at_ 3 3 rfl rfl⟩))
    go_region_held3 (fun w' => w'.cell? ⟨g2, 0, none⟩ = some (.int .i64 x0) ∧ w'.cell? ⟨g2, 1, none⟩ = some (.int .i64 x1) ∧ w'.cell? ⟨g2, 2, none⟩ = some (.int .i64 x2) ∧ w'.cell? ⟨g2, 3, none⟩ = some (.int .i64 x3) ∧ w'.cell? ⟨g1, 0, none⟩ = some (.int .i64 t) ∧ w'.cell? ⟨g1, 1, none⟩ = some (.slice A0 l0.length p0) ∧ w'.cell? ⟨g1, 2, none⟩ = some (.slice A1 l1.length p1) ∧ w'.cell? ⟨g1, 3, none⟩ = some (.bool fl)) (first
        | exact HSX.out _ (HBL.out.push #[.int .i64 t, .slice P0 r2.length q0_, .slice P1 r3.length q1_, .bool r4] 24).bare1
        | exact HSX.out _ HBL.out.bare
        | exact HSX.out _ HBL.out.bare1
        | exact HSX.out _ (HBL.out.push #[.int .i64 0, .slice none 0 0, .slice none 0 0, .bool false] 24).bare1
        | exact HSX.out _ HBL.out.drew.bare
        | exact HSX.out _ HBL.out.drew.bare1
        | exact HSX.out _ (HBL.out.push #[.int .i64 0, .slice none 0 0, .slice none 0 0, .bool false] 24).drew.bare1
        | exact HSX.out _ HF.out.bare
        | exact HSX.out _ HF.out.bare1
        | exact HSX.out _ (HF.out.push #[.int .i64 0, .slice none 0 0, .slice none 0 0, .bool false] 24).bare1
        | exact HSX.out _ HF.out.drew.bare
        | exact HSX.out _ HF.out.drew.bare1
        | exact HSX.out _ (HF.out.push #[.int .i64 0, .slice none 0 0, .slice none 0 0, .bool false] 24).drew.bare1
        | exact HSX.out _ HE.out.bare
        | exact HSX.out _ HE.out.bare1
        | exact HSX.out _ (HE.out.push #[.int .i64 0, .slice none 0 0, .slice none 0 0, .bool false] 24).bare1
        | exact HSX.out _ HE.out.drew.bare
        | exact HSX.out _ HE.out.drew.bare1
        | exact HSX.out _ (HE.out.push #[.int .i64 0, .slice none 0 0, .slice none 0 0, .bool false] 24).drew.bare1
        | exact HSX.out _ (HBL.out.book4 (.int .i64 t) (.slice P0 r2.length q0_) (.slice P1 r3.length q1_) (.bool r4)).bare1
        | exact HSX.out _ ((HBL.out.push #[.int .i64 0, .slice none 0 0, .slice none 0 0, .bool false] 24).book4 (.int .i64 t) (.slice P0 r2.length q0_) (.slice P1 r3.length q1_) (.bool r4)).bare1) (first
        | ((go_at_call 32; (with_reducible refine (winnowlaw19_few.calls x1 0 ((r : Int) - 1) (rt : Int) _ HRT.out).mono ?_); rintro e w_HF ⟨rfl, hB⟩; have HF := Aside0.mk ((HE.out.drew).below hB.below); clear hB))
        | ((go_at_call 32; (with_reducible refine (winnowlaw19_few.calls x1 0 ((r : Int) - 1) (rt : Int) _ HRT.out).mono ?_); rintro e w_HF ⟨rfl, hB⟩; have HF := Aside0.mk (((HE.out.push #[.int .i64 0, .slice none 0 0, .slice none 0 0, .bool false] 24).drew).below hB.below); clear hB))
        | ((go_at_call 30; (with_reducible refine (blame_any t fl _ _ l0 _ _ l1 rt mt n t r2 r3 r4 true 0 _ ((HF.out).row_ 0 rfl) ((HF.out).row_ 1 rfl) HL0.out HL1.out ((HF.out).tab HT.out) HB.out).mono ?_); rintro e w_HBL ⟨v0, v1, rfl, s0, s1, hB⟩; have hE := (HF.out).rows2 hB rfl s0 s1 3 4 (show ([3, 4, 1, 2] : List Nat).Nodup from by decide) (by decide) (by decide); obtain ⟨P0, q0_, rfl⟩ := Kd.R_slice s0; obtain ⟨P1, q1_, rfl⟩ := Kd.R_slice s1; have HBL := Aside0.mk hE; clear hB s0 s1 hE; (try have y0_ : World.cell? _ ⟨_, 0, none⟩ = some (.int .i64 0) := HBL.out.at_ 0 0 rfl rfl); (try have y1_ : World.cell? _ ⟨_, 1, none⟩ = some (.slice none 0 0) := HBL.out.at_ 0 1 rfl rfl); (try have y2_ : World.cell? _ ⟨_, 2, none⟩ = some (.slice none 0 0) := HBL.out.at_ 0 2 rfl rfl); (try have y3_ : World.cell? _ ⟨_, 3, none⟩ = some (.bool false) := HBL.out.at_ 0 3 rfl rfl); (try have f0_ := HBL.out.fr_ 0 0 (cs := #[.int .i64 0, .slice none 0 0, .slice none 0 0, .bool false]) rfl); (try have f1_ := HBL.out.fr_ 0 1 (cs := #[.int .i64 0, .slice none 0 0, .slice none 0 0, .bool false]) rfl); (try have f2_ := HBL.out.fr_ 0 2 (cs := #[.int .i64 0, .slice none 0 0, .slice none 0 0, .bool false]) rfl); (try have f3_ := HBL.out.fr_ 0 3 (cs := #[.int .i64 0, .slice none 0 0, .slice none 0 0, .bool false]) rfl)))
        | ((go_at_call 30; (with_reducible refine (blame_any t fl _ _ l0 _ _ l1 rt mt n t r2 r3 r4 true 0 _ (((HF.out.push #[.int .i64 0, .slice none 0 0, .slice none 0 0, .bool false] 24)).row_ 0 rfl) (((HF.out.push #[.int .i64 0, .slice none 0 0, .slice none 0 0, .bool false] 24)).row_ 1 rfl) HL0.out HL1.out (((HF.out.push #[.int .i64 0, .slice none 0 0, .slice none 0 0, .bool false] 24)).tab HT.out) HB.out).mono ?_); rintro e w_HBL ⟨v0, v1, rfl, s0, s1, hB⟩; have hE := ((HF.out.push #[.int .i64 0, .slice none 0 0, .slice none 0 0, .bool false] 24)).rows2 hB rfl s0 s1 3 4 (show ([3, 4, 1, 2] : List Nat).Nodup from by decide) (by decide) (by decide); obtain ⟨P0, q0_, rfl⟩ := Kd.R_slice s0; obtain ⟨P1, q1_, rfl⟩ := Kd.R_slice s1; have HBL := Aside0.mk hE; clear hB s0 s1 hE; (try have y0_ : World.cell? _ ⟨_, 0, none⟩ = some (.int .i64 0) := HBL.out.at_ 0 0 rfl rfl); (try have y1_ : World.cell? _ ⟨_, 1, none⟩ = some (.slice none 0 0) := HBL.out.at_ 0 1 rfl rfl); (try have y2_ : World.cell? _ ⟨_, 2, none⟩ = some (.slice none 0 0) := HBL.out.at_ 0 2 rfl rfl); (try have y3_ : World.cell? _ ⟨_, 3, none⟩ = some (.bool false) := HBL.out.at_ 0 3 rfl rfl); (try have f0_ := HBL.out.fr_ 0 0 (cs := #[.int .i64 0, .slice none 0 0, .slice none 0 0, .bool false]) rfl); (try have f1_ := HBL.out.fr_ 0 1 (cs := #[.int .i64 0, .slice none 0 0, .slice none 0 0, .bool false]) rfl); (try have f2_ := HBL.out.fr_ 0 2 (cs := #[.int .i64 0, .slice none 0 0, .slice none 0 0, .bool false]) rfl); (try have f3_ := HBL.out.fr_ 0 3 (cs := #[.int .i64 0, .slice none 0 0, .slice none 0 0, .bool false]) rfl))))
    all_goals (go_wp2_with fail; go_meet; first | exact ⟨_, _, _, _, _, rfl, rfl, rfl, ⟨HBL.out.book4 (.int .i64 t) (.slice P0 r2.length q0_) (.slice P1 r3.length q1_) (.bool r4)⟩⟩ | exact ⟨_, _, _, _, _, rfl, rfl, rfl, ⟨HBL.out.push #[.int .i64 t, .slice P0 r2.length q0_, .slice P1 r3.length q1_, .bool r4] 24⟩⟩ | exact ⟨_, _, _, _, _, rfl, rfl, rfl, ⟨(HBL.out.push #[.int .i64 0, .slice none 0 0, .slice none 0 0, .bool false] 24).book4 (.int .i64 t) (.slice P0 r2.length q0_) (.slice P1 r3.length q1_) (.bool r4)⟩⟩)
  case rest =>
    clear HE
    obtain ⟨g24, P0, q0_, P1, q1_, rfl, rfl, rfl, HE⟩ := hcut
    clear hwr_
    go_upto_region 26 with fail
    go_wp2_with fail
    refine (charge_env mt n HE.out.bf5 HMK.out HN1.out HN2.out HBG.out HCH.out HS.out).mono ?_
    rintro e w7 ⟨rfl, hE0⟩
    have hE := hE0.bb5
    clear HE hE0
    have HE := Aside0.mk hE
    clear hE
    go_upto_region 28 with fail
    have HSX := Aside0.mk (fun (w' : World) (z n : Bx) (h : Env w0 (⟨g24, #[.int .i64 t, .slice P0 r2.length q0_, .slice P1 r3.length q1_, .bool r4], 24⟩ :: ⟨g12, #[.int .i64 tk, .int .i64 tb], 29⟩ :: z :: ⟨g2, #[.int .i64 x0, .int .i64 x1, .int .i64 x2, .int .i64 x3], 58⟩ :: ⟨g1, #[.int .i64 t, .slice A0 l0.length p0, .slice A1 l1.length p1, .bool fl], 24⟩ :: n :: B) [] w') => (show w'.cell? ⟨g24, 0, none⟩ = some (.int .i64 t) ∧ w'.cell? ⟨g24, 1, none⟩ = some (.slice P0 r2.length q0_) ∧ w'.cell? ⟨g24, 2, none⟩ = some (.slice P1 r3.length q1_) ∧ w'.cell? ⟨g24, 3, none⟩ = some (.bool r4) from ⟨h.at_ 0 0 rfl rfl, h.at_ 0 1 rfl rfl, h.at_ 0 2 rfl rfl, h.at_ 0 3 rfl rfl⟩))
    have f10_0 : w7.frozen? ⟨g10, 0, none⟩ = false := HE.out.fr_ 2 0 rfl
    have z10_0 : w7.cell? ⟨g10, 0, none⟩ = some (.int .i64 0) := HE.out.at_ 2 0 rfl rfl
    have f10_1 : w7.frozen? ⟨g10, 1, none⟩ = false := HE.out.fr_ 2 1 rfl
    have z10_1 : w7.cell? ⟨g10, 1, none⟩ = some (.slice none 0 0) := HE.out.at_ 2 1 rfl rfl
    have f10_2 : w7.frozen? ⟨g10, 2, none⟩ = false := HE.out.fr_ 2 2 rfl
    have z10_2 : w7.cell? ⟨g10, 2, none⟩ = some (.slice none 0 0) := HE.out.at_ 2 2 rfl rfl
    have f10_3 : w7.frozen? ⟨g10, 3, none⟩ = false := HE.out.fr_ 2 3 rfl
    have z10_3 : w7.cell? ⟨g10, 3, none⟩ = some (.bool false) := HE.out.at_ 2 3 rfl rfl
    go_region_held3 (fun w' => w'.cell? ⟨g24, 0, none⟩ = some (.int .i64 t) ∧ w'.cell? ⟨g24, 1, none⟩ = some (.slice P0 r2.length q0_) ∧ w'.cell? ⟨g24, 2, none⟩ = some (.slice P1 r3.length q1_) ∧ w'.cell? ⟨g24, 3, none⟩ = some (.bool r4)) (first
        | (with_reducible exact HSX.out _ _ _ HA.out.bare)
        | (with_reducible exact HSX.out _ _ _ HA.out.drew.bare)
        | (with_reducible exact HSX.out _ _ _ (HA.out.st2 (.int .i64 t) (.slice P0 r2.length q0_) (.slice P1 r3.length q1_) (.bool r4)).bare)
        | (with_reducible exact HSX.out _ _ _ (HA.out.st2 (.int .i64 t) (.slice P0 r2.length q0_) (.slice P1 r3.length q1_) (.bool r4)).drew.bare)
        | (with_reducible exact HSX.out _ _ _ HE.out.bare)
        | (with_reducible exact HSX.out _ _ _ HE.out.drew.bare)
        | (with_reducible exact HSX.out _ _ _ (HE.out.st2 (.int .i64 t) (.slice P0 r2.length q0_) (.slice P1 r3.length q1_) (.bool r4)).bare)
        | (with_reducible exact HSX.out _ _ _ (HE.out.st2 (.int .i64 t) (.slice P0 r2.length q0_) (.slice P1 r3.length q1_) (.bool r4)).drew.bare)) (first
        | ((go_at_call 34; (with_reducible refine (winnowlaw19_sized.calls t P0 q0_ r2 P1 q1_ r3 r4 m r true _ (((HE.out.drew)).row_ 0 rfl) (((HE.out.drew)).cap_ 0 rfl).2 (((HE.out.drew)).row_ 1 rfl) (((HE.out.drew)).cap_ 1 rfl).2 HSZ.out).mono ?_); rintro e w_HA ⟨rfl, hB⟩; have HA := Aside0.mk (((HE.out.drew)).below hB); clear hB; (try have f0_HA := HA.out.fr_ 2 0 rfl); (try have z0_HA := HA.out.at_ 2 0 rfl rfl); (try have f1_HA := HA.out.fr_ 2 1 rfl); (try have z1_HA := HA.out.at_ 2 1 rfl rfl); (try have f2_HA := HA.out.fr_ 2 2 rfl); (try have z2_HA := HA.out.at_ 2 2 rfl rfl); (try have f3_HA := HA.out.fr_ 2 3 rfl); (try have z3_HA := HA.out.at_ 2 3 rfl rfl)))
        | ((go_at_call 34; (with_reducible refine (winnowlaw19_sized.calls t P0 q0_ r2 P1 q1_ r3 r4 m r true _ (((HE.out.st2 (.int .i64 t) (.slice P0 r2.length q0_) (.slice P1 r3.length q1_) (.bool r4)).drew).row_ 0 rfl) (((HE.out.st2 (.int .i64 t) (.slice P0 r2.length q0_) (.slice P1 r3.length q1_) (.bool r4)).drew).cap_ 0 rfl).2 (((HE.out.st2 (.int .i64 t) (.slice P0 r2.length q0_) (.slice P1 r3.length q1_) (.bool r4)).drew).row_ 1 rfl) (((HE.out.st2 (.int .i64 t) (.slice P0 r2.length q0_) (.slice P1 r3.length q1_) (.bool r4)).drew).cap_ 1 rfl).2 HSZ.out).mono ?_); rintro e w_HA ⟨rfl, hB⟩; have HA := Aside0.mk (((HE.out.st2 (.int .i64 t) (.slice P0 r2.length q0_) (.slice P1 r3.length q1_) (.bool r4)).drew).below hB); clear hB; (try have f0_HA := HA.out.fr_ 2 0 rfl); (try have z0_HA := HA.out.at_ 2 0 rfl rfl); (try have f1_HA := HA.out.fr_ 2 1 rfl); (try have z1_HA := HA.out.at_ 2 1 rfl rfl); (try have f2_HA := HA.out.fr_ 2 2 rfl); (try have z2_HA := HA.out.at_ 2 2 rfl rfl); (try have f3_HA := HA.out.fr_ 2 3 rfl); (try have z3_HA := HA.out.at_ 2 3 rfl rfl))))
    all_goals (go_wp2_with fail; first
      | (have hE := HA.out; refine bodyPost_ret (results_ct rfl _ _ g10 24 #[.int .i64 t, .slice P0 r2.length q0_, .slice P1 r3.length q1_, .bool r4] (0, 0) _ rfl (hE.blk_ 2 rfl) Tryd.underlying24 rfl (by kernel_rfl)) rfl ?_; exact ⟨_, _, _, _, by first | simp; done | rfl, hE.sub (.cons _ (.cons _ (.cons _ (.cons _ (.cons _ (List.Sublist.refl _)))))) (List.Sublist.refl _)⟩)
      | (have hE := (HA.out.st2 (.int .i64 t) (.slice P0 r2.length q0_) (.slice P1 r3.length q1_) (.bool r4)); refine bodyPost_ret (results_ct rfl _ _ g10 24 #[.int .i64 t, .slice P0 r2.length q0_, .slice P1 r3.length q1_, .bool r4] (0, 0) _ rfl (hE.blk_ 2 rfl) Tryd.underlying24 rfl (by kernel_rfl)) rfl ?_; exact ⟨_, _, _, _, by first | simp; done | rfl, hE.sub (.cons _ (.cons _ (.cons _ (.cons _ (.cons _ (List.Sublist.refl _)))))) (List.Sublist.refl _)⟩))
end Go.Proofs.YtponmfnegdlppaaDoor.P

end
section
/- Behind a Blame; bounds of what is noted. -/
namespace Go.Proofs.YtponmfnegdlppaaDoor.P
open Go.RowKit Go.Proofs.YtponmfnegdlppaaDoorW.PrintWords Go.Proofs.YtponmfnegdlppaaDoorW.PrintLast Go.Proofs.YtponmfnegdlppaaDoorW.PrintMore
set_option linter.unusedVariables false

/-- what a Blame that goes well is -/
theorem blame_form {t : Int} {l0 l1 : List S38} {fl : Bool} {a b c t' : Int} {l0' l1' : List S38} {fl' g : Bool} (h : blameP t l0 l1 fl a b c = (t', l0', l1', fl', g, 0)) :
    ∃ (m n : Nat) (s2 s3 : List S38) (s4 : Bool), a = m ∧ m < l1.length ∧ b = n ∧ n < l0.length ∧ 1 ≤ c ∧ c ≤ (rd_T38 l0 b).f1 ∧ holdP t l0 l1 fl a = (t, s2, s3, s4, 0) ∧ s2 = l0 ∧
      ((rd_T38 l0 b).f0 = 3 ∧ (rd_T38 l0 b).f1 = c ∧ g = true ∧ t' = t ∧ l0' = l0.set b.toNat ⟨0, (rd_T38 l0 b).f1, (rd_T38 l0 b).f2 + 1⟩ ∧ l1' = s3 ∧ fl' = (s4 || decide ((rd_T38 l0 b).f2 + 1 = t)) ∨ g = false ∧ t' = t ∧ l0' = l0 ∧ l1' = s3 ∧ fl' = s4) := by
  unfold blameP at h
  by_cases hk : knownP t l0 l1 fl [⟨1, a⟩, ⟨0, b⟩] = 0
  · rw [if_pos hk] at h
    obtain ⟨_, ⟨m, rfl, hm⟩, n, rfl, hn⟩ := known_two hk
    by_cases h1 : c < 1 ∨ (rd_T38 l0 (n : Int)).f1 < c
    · rw [if_pos h1] at h
      simp only [Prod.mk.injEq] at h
      exact absurd h.2.2.2.2.2 (by decide)
    rw [if_neg h1] at h
    obtain ⟨s1, s2, s3, s4, s5, hh⟩ : ∃ s1 s2 s3 s4 s5, holdP t l0 l1 fl (m : Int) = (s1, s2, s3, s4, s5) := ⟨_, _, _, _, _, rfl⟩
    have hsame := @hold_same t l0 l1 fl (m : Int)
    rw [hh] at h hsame
    simp only at h hsame
    by_cases h5 : s5 = 0
    · rw [if_pos h5] at h
      obtain ⟨rfl, rfl⟩ := hsame h5
      subst h5
      refine ⟨m, n, s2, s3, s4, rfl, hm, rfl, hn, by omega, by omega, hh, rfl, ?_⟩
      unfold chargeP at h
      by_cases hg : (rd_T38 s2 (n : Int)).f0 = 3 ∧ (rd_T38 s2 (n : Int)).f1 = c
      · rw [if_pos hg] at h
        simp only [Prod.mk.injEq] at h
        obtain ⟨rfl, rfl, rfl, rfl, rfl, _⟩ := h
        exact .inl ⟨hg.1, hg.2, rfl, rfl, rfl, rfl, rfl⟩
      · rw [if_neg hg] at h
        simp only [Prod.mk.injEq] at h
        obtain ⟨rfl, rfl, rfl, rfl, rfl, _⟩ := h
        exact .inr ⟨rfl, rfl, rfl, rfl, rfl⟩
    · rw [if_neg h5] at h
      simp only [Prod.mk.injEq] at h
      exact absurd h.2.2.2.2.2 h5
  · rw [if_neg hk] at h
    simp only [Prod.mk.injEq] at h
    exact absurd h.2.2.2.2.2 hk
theorem place0 (m n : Nat) : place m 0 (n : Int) = n := by unfold place; rw [if_pos rfl, Int.toNat_natCast]
/-- Behind a Blame that goes well. -/
theorem INV.blame {t : Int} {l0 l1 : List S38} {fl : Bool} {m r : Nat} {bg ch : Nat → Bool} {s c : Int} {rt mt : Nat} {a t' : Int} {l0' l1' : List S38} {fl' g : Bool} (h : INV t l0 l1 fl m r bg ch s c) (hb : blameP t l0 l1 fl rt mt a = (t', l0', l1', fl', g, 0)) (tk tb : Int) :
    t' = t ∧ Stays 3 tk tb mt rt fl l0 l1 l0' l1' fl' ∧ (g = false → fl' = false ∧ INV t l0' l1' fl' m r bg ch s c) ∧
    (g = true → ∃ n : Nat, a = n ∧ 1 ≤ n ∧ n ≤ 16 ∧ bg (mt * 17 + n) = true ∧ ch (mt * 17 + n) = false ∧ INV t l0' l1' fl' m r bg (upd ch (mt * 17 + n)) s (c + 1)) := by
  obtain ⟨rt', mt', s2, s3, s4, e1, hrt, e2, hmt, ha1, ha2, hh, rfl, hcase⟩ := blame_form hb
  obtain rfl : rt' = rt := by omega
  obtain rfl : mt' = mt := by omega
  unfold holdP at hh
  obtain ⟨_, rfl, hI, x, hx0, hx1, hx2, hx3⟩ := h.still (v := 2) (k := 1) (b := (rt' : Int)) (.inr ⟨rfl, by decide⟩) hh
  obtain ⟨_, hf, _, _, _, _, _⟩ := end_form hh
  subst hf
  rw [if_neg (by decide), Int.toNat_natCast] at hx1
  have hst : stP s2 l1 1 (rt' : Int) = l1[rt'] := by unfold stP; rw [if_neg (by decide), rd38 l1 rt' hrt]
  rw [hst] at hx2
  have hreds : ∀ (k : Nat) (h : k < l1.length) (h' : k < s3.length), ¬ ((3 : Int) ≠ 3 ∧ tk = 1 ∧ tb = k ∨ (3 : Int) = 3 ∧ rt' = k) → s3[k] = l1[k] := fun k h h' hne => by
    subst hx1
    rw [List.getElem_set_ne (fun e => hne (.inr ⟨rfl, e⟩))]
  have hrdone : ∀ (k : Nat) (h : k < l1.length) (h' : k < s3.length), (l1[k]).f0 = 3 → s3[k] = l1[k] := fun k h h' q => by
    subst hx1
    by_cases e : rt' = k
    · subst e; rw [hx2] at q; exact absurd q (by decide)
    · rw [List.getElem_set_ne e]
  have hrd : rd_T38 s2 (mt' : Int) = s2[mt'] := rd38 s2 mt' hmt
  rcases hcase with ⟨h3, h4, rfl, rfl, rfl, rfl, rfl⟩ | ⟨rfl, rfl, rfl, rfl, rfl⟩
  · rw [hrd] at h3 h4 ⊢
    have hch := hI.charge (k := 0) (b := (mt' : Int)) (.inl ⟨rfl, mt', rfl, hmt⟩) (.inr (by unfold stP; rw [if_pos rfl, hrd]; exact h3))
    obtain ⟨n, q1, q2, q3, q4, q5, q6⟩ := hch
    have hs0 : stP s2 l1' 0 (mt' : Int) = s2[mt'] := by unfold stP; rw [if_pos rfl, hrd]
    rw [hs0] at q1 q6
    rw [place0] at q4 q5 q6
    rw [if_pos rfl, if_pos rfl] at q6
    refine ⟨rfl, ⟨fun k h h' hne => ?_, fun k h h' g1 g2 => ?_, hreds, hrdone, fun h => by cases h⟩, (fun h => by cases h), fun _ => ⟨n, by omega, q2, q3, q4, q5, ?_⟩⟩
    · simp only [Int.toNat_natCast]
      rw [List.getElem_set_ne (fun e => hne (.inr ⟨rfl, e⟩))]
    · simp only [Int.toNat_natCast] at g2 ⊢
      by_cases e : mt' = k
      · subst e
        rw [List.getElem_set_self]
        exact ⟨trivial, rfl⟩
      · rw [List.getElem_set_ne e] at g2
        exact absurd g1 g2
    · rw [Bool.false_or]
      exact q6
  · exact ⟨rfl, ⟨fun _ _ _ _ => rfl, fun k h h' g1 g2 => absurd g1 g2, hreds, hrdone, fun h => by cases h⟩, fun _ => ⟨rfl, hI⟩, fun h => by cases h⟩
/-- sums of small numbers -/
theorem sumL_le (f : S38 → Int) (b : Int) (hb : 0 ≤ b) : ∀ (L : List S38), (∀ x ∈ L, 0 ≤ f x ∧ f x ≤ b) → 0 ≤ sumL f L ∧ sumL f L ≤ b * L.length
  | [], _ => by simp [sumL]
  | x :: L, h => by
    have h1 := h x (List.mem_cons_self ..)
    have h2 := sumL_le f b hb L (fun y m => h y (List.mem_cons_of_mem _ m))
    have e : sumL f (x :: L) = f x + sumL f L := by unfold sumL; rw [List.map_cons, List.sum_cons]
    have e2 : b * ((x :: L).length : Int) = b * L.length + b := by rw [List.length_cons]; push_cast; rw [Int.mul_add, Int.mul_one]
    rw [e, e2]
    omega
theorem INV.small {t : Int} {l0 l1 : List S38} {fl : Bool} {m r : Nat} {bg ch : Nat → Bool} {s c : Int} (h : INV t l0 l1 fl m r bg ch s c) (hm : m ≤ 6) (hr : r ≤ 6) : 0 ≤ s ∧ s ≤ 1000 ∧ 0 ≤ c ∧ c ≤ 1000 ∧ s ≤ m + r + c := by
  obtain ⟨q1, q2, q3, q4, q5, q6, q7, q8, q9⟩ := (check_iff _ _ _ _).1 h.check
  have hall : ∀ x ∈ l0 ++ l1, (x.f0 = 0 → x.f1 = x.f2) ∧ (x.f0 ≠ 0 → x.f1 = x.f2 + 1) ∧ 0 ≤ x.f2 ∧ x.f2 ≤ t := fun x mx => by
    rcases List.mem_append.1 mx with mx | mx
    · obtain ⟨g1, g2, g3, g4, g5, g6, g7⟩ := good_state (q6 x mx); exact ⟨g3, g4, g5, g6⟩
    · obtain ⟨g1, g2, g3, g4, g5, g6, g7⟩ := good_state (q7 x mx); exact ⟨g3, g4, g5, g6⟩
  have hlen : (l0 ++ l1).length = m + r := by rw [List.length_append, h.n0, h.n1]
  have h1 := sumL_le S38.f1 17 (by decide) (l0 ++ l1) (fun x mx => by
    have := hall x mx
    by_cases e : x.f0 = 0
    · have := this.1 e; omega
    · have := this.2.1 e; omega)
  have h2 := sumL_le S38.f2 16 (by decide) (l0 ++ l1) (fun x mx => by have := hall x mx; omega)
  have h3 : ∀ L : List S38, (∀ x ∈ L, x.f1 ≤ x.f2 + 1) → sumL S38.f1 L ≤ L.length + sumL S38.f2 L := by
    intro L
    induction L with
    | nil => intro _; simp [sumL]
    | cons x L ih =>
      intro hh
      have a1 := hh x (List.mem_cons_self ..)
      have a2 := ih (fun y my => hh y (List.mem_cons_of_mem _ my))
      simp only [sumL, List.map_cons, List.sum_cons, List.length_cons] at a2 ⊢
      push_cast
      omega
  have h4 := h3 (l0 ++ l1) (fun x mx => by
    have := hall x mx
    by_cases e : x.f0 = 0
    · have := this.1 e; omega
    · have := this.2.1 e; omega)
  rw [← h.starts] at h1 h4
  rw [← h.charges] at h2 h4
  rw [hlen] at h1 h2 h4
  push_cast at h1 h2 h4
  omega
end Go.Proofs.YtponmfnegdlppaaDoor.P

end
