/- Several texts laid together (wip/tools/merge2.py): HMadeB. -/
import Derived.Test.YtponmfnegdlppaaDoorMP10
import Derived.Test.YtponmfnegdlppaaDoorMP9
import Derived.Outline
import Derived.Deep.DeepCutAuto
import Derived.Deep.RegionHeld3
section
/- made: a move on a book, path by path (printed by HMade.gen.py). -/
namespace Go.Proofs.YtponmfnegdlppaaDoor.P
open Go.RowKit Go.Proofs.YtponmfnegdlppaaDoorW.PrintWords Go.Proofs.YtponmfnegdlppaaDoorW.PrintLast Go.Proofs.YtponmfnegdlppaaDoorW.PrintMore
set_option linter.unusedVariables false
set_option linter.unusedSimpArgs false

set_option maxHeartbeats 16000000 in
set_option maxRecDepth 100000 in
theorem made_begin_ok {w0 W : World} {B : List Bx} {gN : Nat} {bg ch : Nat → Bool} {s c t : Int} {A0 A1 : Option Addr} {p0 p1 : Nat} {l0 l1 : List S38} {fl : Bool} {x0 x1 x2 x3 : Int} {m r k : Nat} {tk tb : Int} (h : Env w0 (⟨gN, ncells bg ch s c, 56⟩ :: B) (⟨1, k38, 38, .slice A0 l0.length p0, l0⟩ :: ⟨2, k38, 38, .slice A1 l1.length p1, l1⟩ :: []) W) (hT : Tab w0) (hl0 : l0.length ≤ 6000000000000) (hl1 : l1.length ≤ 6000000000000)
    (hpk : winnowlaw19_picked.f x1 m r = some (tk, tb)) (hnu : winnowlaw19_number.f tk tb m = some (k : Int)) {r2 r3 : List S38} {n : Nat} {r6 : Bool} {s' : Int} (hop : winnowlaw19_few.f x0 0 3 = some 0) (hb : beginP t l0 l1 fl tk tb = (t, r2, r3, false, (n : Int), r6, 0)) (hsz : winnowlaw19_sized.f t r2 r3 false m r = some true) (hat : winnowlaw19_attempt.f t r2 r3 false tk tb = some (n : Int)) (hk : k < 16) (hn1 : 1 ≤ n) (hn2 : n ≤ 16) (hbg : bg (k * 17 + n) = !r6) (hp : 1 < n → bg (k * 17 + (n - 1)) = true) (hc : r6 = true → 1 < n → ch (k * 17 + (n - 1)) = true) (hs : 0 ≤ s ∧ s ≤ 1000000000000) (hsn : (if r6 = true then s + 1 else s) = s') :
    Calls Tryd.prog 35 #[.pointer (some ⟨gN, 0, none⟩), .agg #[.int .i64 t, .slice A0 l0.length p0, .slice A1 l1.length p1, .bool fl], .agg #[.int .i64 x0, .int .i64 x1, .int .i64 x2, .int .i64 x3], .int .i64 m, .int .i64 r] W fun e W' => ∃ (P0 P1 : Option Addr) (q0_ q1_ : Nat), e = .returned (.tuple #[.agg #[.int .i64 t, .slice P0 r2.length q0_, .slice P1 r3.length q1_, .bool false], .bool true]) ∧ Env w0 (⟨gN, ncells (upd bg (k * 17 + n)) ch s' c, 56⟩ :: B) (⟨3, k38, 38, .slice P0 r2.length q0_, r2⟩ :: ⟨4, k38, 38, .slice P1 r3.length q1_, r3⟩ :: ⟨1, k38, 38, .slice A0 l0.length p0, l0⟩ :: ⟨2, k38, 38, .slice A1 l1.length p1, l1⟩ :: []) W' := by
  have HH := Aside0.mk h
  have HPK := Aside0.mk hpk
  have HNU := Aside0.mk hnu
  have HT := Aside0.mk hT
  have HL0 := Aside0.mk hl0
  have HL1 := Aside0.mk hl1
  have HOP := Aside0.mk hop
  have HB := Aside0.mk hb
  have HSZ := Aside0.mk hsz
  have HAT := Aside0.mk hat
  have HK := Aside0.mk hk
  have HN1 := Aside0.mk hn1
  have HN2 := Aside0.mk hn2
  have HBG := Aside0.mk hbg
  have HP := Aside0.mk hp
  have HC := Aside0.mk hc
  have HS := Aside0.mk hs
  have HSN := Aside0.mk hsn
  clear hpk hnu hT hl0 hl1 hop hb hsz hat hk hn1 hn2 hbg hp hc hs hsn
  have z0 : (W.alloc (.cells #[.int .i64 t, .slice A0 l0.length p0, .slice A1 l1.length p1, .bool fl] 24)).heap.size = W.heap.size + 1 := by simp
  have z1 : ((W.alloc (.cells #[.int .i64 t, .slice A0 l0.length p0, .slice A1 l1.length p1, .bool fl] 24)).alloc (.cells #[.int .i64 x0, .int .i64 x1, .int .i64 x2, .int .i64 x3] 58)).heap.size = W.heap.size + 1 + 1 := by simp
  have hE0 := ((h.push #[.int .i64 t, .slice A0 l0.length p0, .slice A1 l1.length p1, .bool fl] 24).push #[.int .i64 x0, .int .i64 x1, .int .i64 x2, .int .i64 x3] 58).push #[.int .i64 0, .slice none 0 0, .slice none 0 0, .bool false] 24
  rw [z0, z1] at hE0
  clear z0 z1
  obtain ⟨g10, hg2⟩ : ∃ g, g = W.heap.size + 1 + 1 := ⟨_, rfl⟩
  obtain ⟨g2, hg1⟩ : ∃ g, g = W.heap.size + 1 := ⟨_, rfl⟩
  obtain ⟨g1, hg0⟩ : ∃ g, g = W.heap.size := ⟨_, rfl⟩
  rw [← hg2, ← hg1, ← hg0] at hE0
  obtain ⟨W0, hW0, hE⟩ : ∃ W0, ((W.alloc (.cells #[.int .i64 t, .slice A0 l0.length p0, .slice A1 l1.length p1, .bool fl] 24)).alloc (.cells #[.int .i64 x0, .int .i64 x1, .int .i64 x2, .int .i64 x3] 58)).alloc (.cells #[.int .i64 0, .slice none 0 0, .slice none 0 0, .bool false] 24) = W0 ∧ Env w0 _ _ W0 := ⟨_, rfl, hE0⟩
  have HG0 := Aside0.mk hg0
  have HG1 := Aside0.mk hg1
  have HG2 := Aside0.mk hg2
  have HW0 := Aside0.mk hW0
  have HE := Aside0.mk hE
  clear hE hE0 hW0 hg0 hg1 hg2
  clear h
  have hu24 := Tryd.underlying24
  have hu29 := Tryd.underlying29
  have hu56 := Tryd.underlying56
  have hu58 := Tryd.underlying58
  go_enter Tryd.func35, Tryd.ntmps35
  go_upto_region 1 with fail
  rw [← HG2.out, ← HG1.out, ← HG0.out, HW0.out]
  clear HW0 HG0 HG1 HG2
  have xg2_0 : W0.cell? ⟨g2, 0, none⟩ = some (.int .i64 x0) := HE.out.at_ 1 0 rfl rfl
  have xg2_1 : W0.cell? ⟨g2, 1, none⟩ = some (.int .i64 x1) := HE.out.at_ 1 1 rfl rfl
  have xg2_2 : W0.cell? ⟨g2, 2, none⟩ = some (.int .i64 x2) := HE.out.at_ 1 2 rfl rfl
  have xg2_3 : W0.cell? ⟨g2, 3, none⟩ = some (.int .i64 x3) := HE.out.at_ 1 3 rfl rfl
  go_wp2_with fail
  refine (winnowlaw19_picked.calls x1 m r tk tb _ HPK.out).mono ?_
  clear xg2_0 xg2_1 xg2_2 xg2_3
  rintro e w1 ⟨rfl, hB⟩
  have hE := HE.out.below hB
  clear HE hB
  have HE := Aside0.mk hE
  clear hE
  go_upto_region 2 with fail
  have hE := HE.out.push #[.int .i64 tk, .int .i64 tb] 29
  obtain ⟨g12, hg⟩ : ∃ g, g = w1.heap.size := ⟨_, rfl⟩
  rw [← hg] at hE ⊢
  generalize w1.alloc (.cells #[.int .i64 tk, .int .i64 tb] 29) = w2 at hE ⊢
  clear hg HE
  have HE := Aside0.mk hE
  clear hE
  have xg12_0 : w2.cell? ⟨g12, 0, none⟩ = some (.int .i64 tk) := HE.out.at_ 0 0 rfl rfl
  have xg12_1 : w2.cell? ⟨g12, 1, none⟩ = some (.int .i64 tb) := HE.out.at_ 0 1 rfl rfl
  go_wp2_with fail
  refine (winnowlaw19_number.calls tk tb m k _ HNU.out).mono ?_
  clear xg12_0 xg12_1
  rintro e w3 ⟨rfl, hB⟩
  have hE := HE.out.below hB
  clear HE hB
  have HE := Aside0.mk hE
  clear hE
  have xg2_0 : w3.cell? ⟨g2, 0, none⟩ = some (.int .i64 x0) := HE.out.at_ 2 0 rfl rfl
  have xg2_1 : w3.cell? ⟨g2, 1, none⟩ = some (.int .i64 x1) := HE.out.at_ 2 1 rfl rfl
  have xg2_2 : w3.cell? ⟨g2, 2, none⟩ = some (.int .i64 x2) := HE.out.at_ 2 2 rfl rfl
  have xg2_3 : w3.cell? ⟨g2, 3, none⟩ = some (.int .i64 x3) := HE.out.at_ 2 3 rfl rfl
  go_wp2_with fail
  refine (winnowlaw19_few.calls x0 0 3 0 _ HOP.out).mono ?_
  clear xg2_0 xg2_1 xg2_2 xg2_3
  rintro e w4 ⟨rfl, hB⟩
  have hE := HE.out.below hB.below
  clear HE hB
  have HE := Aside0.mk hE
  clear hE
  have xg1_0 : w4.cell? ⟨g1, 0, none⟩ = some (.int .i64 t) := HE.out.at_ 3 0 rfl rfl
  have xg1_1 : w4.cell? ⟨g1, 1, none⟩ = some (.slice A0 l0.length p0) := HE.out.at_ 3 1 rfl rfl
  have xg1_2 : w4.cell? ⟨g1, 2, none⟩ = some (.slice A1 l1.length p1) := HE.out.at_ 3 2 rfl rfl
  have xg1_3 : w4.cell? ⟨g1, 3, none⟩ = some (.bool fl) := HE.out.at_ 3 3 rfl rfl
  have xg12_0 : w4.cell? ⟨g12, 0, none⟩ = some (.int .i64 tk) := HE.out.at_ 0 0 rfl rfl
  have xg12_1 : w4.cell? ⟨g12, 1, none⟩ = some (.int .i64 tb) := HE.out.at_ 0 1 rfl rfl
  go_wp2_with fail
  refine (begin_any t fl _ _ l0 _ _ l1 tk tb t r2 r3 false n r6 0 _ (HE.out.row_ 0 rfl) (HE.out.cap_ 0 rfl).2 (HE.out.row_ 1 rfl) HL0.out HL1.out (HE.out.tab HT.out) HB.out).mono ?_
  clear xg1_0 xg1_1 xg1_2 xg1_3 xg12_0 xg12_1
  rintro e w5 ⟨v0, v1, rfl, s0, s1, hB⟩
  have hE := HE.out.rows2 hB rfl s0 s1 3 4 (show ([3, 4, 1, 2] : List Nat).Nodup from by decide) (by decide) (by decide)
  obtain ⟨P0, q0_, rfl⟩ := Kd.R_slice s0
  obtain ⟨P1, q1_, rfl⟩ := Kd.R_slice s1
  clear hB s0 s1 HE
  have HE := Aside0.mk hE
  clear hE
  go_upto_region 6 with fail
  have hE := HE.out.push #[.int .i64 t, .slice P0 r2.length q0_, .slice P1 r3.length q1_, .bool false] 24
  obtain ⟨g14, hg⟩ : ∃ g, g = w5.heap.size := ⟨_, rfl⟩
  rw [← hg] at hE ⊢
  generalize w5.alloc (.cells #[.int .i64 t, .slice P0 r2.length q0_, .slice P1 r3.length q1_, .bool false] 24) = w6 at hE ⊢
  clear hg HE
  have HE := Aside0.mk hE
  clear hE
  go_upto_region 8 with fail
  have hnn_ : ((n : Int) == (n : Int)) = true := beq_self_eq_true _
  have HSX := Aside0.mk (fun (w' : World) (z n : Bx) (h : Env w0 (⟨g14, #[.int .i64 t, .slice P0 r2.length q0_, .slice P1 r3.length q1_, .bool false], 24⟩ :: ⟨g12, #[.int .i64 tk, .int .i64 tb], 29⟩ :: z :: ⟨g2, #[.int .i64 x0, .int .i64 x1, .int .i64 x2, .int .i64 x3], 58⟩ :: ⟨g1, #[.int .i64 t, .slice A0 l0.length p0, .slice A1 l1.length p1, .bool fl], 24⟩ :: n :: B) [] w') => (show w'.cell? ⟨g14, 0, none⟩ = some (.int .i64 t) ∧ w'.cell? ⟨g14, 1, none⟩ = some (.slice P0 r2.length q0_) ∧ w'.cell? ⟨g14, 2, none⟩ = some (.slice P1 r3.length q1_) ∧ w'.cell? ⟨g14, 3, none⟩ = some (.bool false) ∧ w'.cell? ⟨g12, 0, none⟩ = some (.int .i64 tk) ∧ w'.cell? ⟨g12, 1, none⟩ = some (.int .i64 tb) from ⟨h.at_ 0 0 rfl rfl, h.at_ 0 1 rfl rfl, h.at_ 0 2 rfl rfl, h.at_ 0 3 rfl rfl, h.at_ 1 0 rfl rfl, h.at_ 1 1 rfl rfl⟩))
  have f10_0 : w6.frozen? ⟨g10, 0, none⟩ = false := HE.out.fr_ 2 0 rfl
  have z10_0 : w6.cell? ⟨g10, 0, none⟩ = some (.int .i64 0) := HE.out.at_ 2 0 rfl rfl
  have f10_1 : w6.frozen? ⟨g10, 1, none⟩ = false := HE.out.fr_ 2 1 rfl
  have z10_1 : w6.cell? ⟨g10, 1, none⟩ = some (.slice none 0 0) := HE.out.at_ 2 1 rfl rfl
  have f10_2 : w6.frozen? ⟨g10, 2, none⟩ = false := HE.out.fr_ 2 2 rfl
  have z10_2 : w6.cell? ⟨g10, 2, none⟩ = some (.slice none 0 0) := HE.out.at_ 2 2 rfl rfl
  have f10_3 : w6.frozen? ⟨g10, 3, none⟩ = false := HE.out.fr_ 2 3 rfl
  have z10_3 : w6.cell? ⟨g10, 3, none⟩ = some (.bool false) := HE.out.at_ 2 3 rfl rfl
  go_region_held3 (fun w' => w'.cell? ⟨g14, 0, none⟩ = some (.int .i64 t) ∧ w'.cell? ⟨g14, 1, none⟩ = some (.slice P0 r2.length q0_) ∧ w'.cell? ⟨g14, 2, none⟩ = some (.slice P1 r3.length q1_) ∧ w'.cell? ⟨g14, 3, none⟩ = some (.bool false) ∧ w'.cell? ⟨g12, 0, none⟩ = some (.int .i64 tk) ∧ w'.cell? ⟨g12, 1, none⟩ = some (.int .i64 tb)) (first
      | (with_reducible exact HSX.out _ _ _ HCC.out.bare)
      | (with_reducible exact HSX.out _ _ _ HCC.out.drew.bare)
      | (with_reducible exact HSX.out _ _ _ (HCC.out.st2 (.int .i64 t) (.slice P0 r2.length q0_) (.slice P1 r3.length q1_) (.bool false)).bare)
      | (with_reducible exact HSX.out _ _ _ (HCC.out.st2 (.int .i64 t) (.slice P0 r2.length q0_) (.slice P1 r3.length q1_) (.bool false)).drew.bare)
      | (with_reducible exact HSX.out _ _ _ HBB.out.bare)
      | (with_reducible exact HSX.out _ _ _ HBB.out.drew.bare)
      | (with_reducible exact HSX.out _ _ _ (HBB.out.st2 (.int .i64 t) (.slice P0 r2.length q0_) (.slice P1 r3.length q1_) (.bool false)).bare)
      | (with_reducible exact HSX.out _ _ _ (HBB.out.st2 (.int .i64 t) (.slice P0 r2.length q0_) (.slice P1 r3.length q1_) (.bool false)).drew.bare)
      | (with_reducible exact HSX.out _ _ _ HA.out.bare)
      | (with_reducible exact HSX.out _ _ _ HA.out.drew.bare)
      | (with_reducible exact HSX.out _ _ _ (HA.out.st2 (.int .i64 t) (.slice P0 r2.length q0_) (.slice P1 r3.length q1_) (.bool false)).bare)
      | (with_reducible exact HSX.out _ _ _ (HA.out.st2 (.int .i64 t) (.slice P0 r2.length q0_) (.slice P1 r3.length q1_) (.bool false)).drew.bare)
      | (with_reducible exact HSX.out _ _ _ HE.out.bare)
      | (with_reducible exact HSX.out _ _ _ HE.out.drew.bare)
      | (with_reducible exact HSX.out _ _ _ (HE.out.st2 (.int .i64 t) (.slice P0 r2.length q0_) (.slice P1 r3.length q1_) (.bool false)).bare)
      | (with_reducible exact HSX.out _ _ _ (HE.out.st2 (.int .i64 t) (.slice P0 r2.length q0_) (.slice P1 r3.length q1_) (.bool false)).drew.bare)) (first
      | ((go_at_call 34; (with_reducible refine (winnowlaw19_sized.calls t P0 q0_ r2 P1 q1_ r3 false m r true _ (((HE.out.drew)).row_ 0 rfl) (((HE.out.drew)).cap_ 0 rfl).2 (((HE.out.drew)).row_ 1 rfl) (((HE.out.drew)).cap_ 1 rfl).2 HSZ.out).mono ?_); rintro e w_HA ⟨rfl, hB⟩; have HA := Aside0.mk (((HE.out.drew)).below hB); clear hB; (try have f0_HA := HA.out.fr_ 2 0 rfl); (try have z0_HA := HA.out.at_ 2 0 rfl rfl); (try have f1_HA := HA.out.fr_ 2 1 rfl); (try have z1_HA := HA.out.at_ 2 1 rfl rfl); (try have f2_HA := HA.out.fr_ 2 2 rfl); (try have z2_HA := HA.out.at_ 2 2 rfl rfl); (try have f3_HA := HA.out.fr_ 2 3 rfl); (try have z3_HA := HA.out.at_ 2 3 rfl rfl)))
      | ((go_at_call 34; (with_reducible refine (winnowlaw19_sized.calls t P0 q0_ r2 P1 q1_ r3 false m r true _ (((HE.out.st2 (.int .i64 t) (.slice P0 r2.length q0_) (.slice P1 r3.length q1_) (.bool false)).drew).row_ 0 rfl) (((HE.out.st2 (.int .i64 t) (.slice P0 r2.length q0_) (.slice P1 r3.length q1_) (.bool false)).drew).cap_ 0 rfl).2 (((HE.out.st2 (.int .i64 t) (.slice P0 r2.length q0_) (.slice P1 r3.length q1_) (.bool false)).drew).row_ 1 rfl) (((HE.out.st2 (.int .i64 t) (.slice P0 r2.length q0_) (.slice P1 r3.length q1_) (.bool false)).drew).cap_ 1 rfl).2 HSZ.out).mono ?_); rintro e w_HA ⟨rfl, hB⟩; have HA := Aside0.mk (((HE.out.st2 (.int .i64 t) (.slice P0 r2.length q0_) (.slice P1 r3.length q1_) (.bool false)).drew).below hB); clear hB; (try have f0_HA := HA.out.fr_ 2 0 rfl); (try have z0_HA := HA.out.at_ 2 0 rfl rfl); (try have f1_HA := HA.out.fr_ 2 1 rfl); (try have z1_HA := HA.out.at_ 2 1 rfl rfl); (try have f2_HA := HA.out.fr_ 2 2 rfl); (try have z2_HA := HA.out.at_ 2 2 rfl rfl); (try have f3_HA := HA.out.fr_ 2 3 rfl); (try have z3_HA := HA.out.at_ 2 3 rfl rfl)))
      | ((go_at_call 62; have hF := ((HA.out)).bf5; (with_reducible refine (begin_env k n r6 hF HK.out HN1.out HN2.out HBG.out HP.out HC.out HS.out).mono ?_); clear hF; rintro e w_HB ⟨rfl, hE⟩; rw [HSN.out] at hE; have HBB := Aside0.mk hE.bb5; clear hE; (try have f0_HBB := HBB.out.fr_ 2 0 rfl); (try have z0_HBB := HBB.out.at_ 2 0 rfl rfl); (try have f1_HBB := HBB.out.fr_ 2 1 rfl); (try have z1_HBB := HBB.out.at_ 2 1 rfl rfl); (try have f2_HBB := HBB.out.fr_ 2 2 rfl); (try have z2_HBB := HBB.out.at_ 2 2 rfl rfl); (try have f3_HBB := HBB.out.fr_ 2 3 rfl); (try have z3_HBB := HBB.out.at_ 2 3 rfl rfl)))
      | ((go_at_call 62; have hF := (((HA.out.st2 (.int .i64 t) (.slice P0 r2.length q0_) (.slice P1 r3.length q1_) (.bool false)))).bf5; (with_reducible refine (begin_env k n r6 hF HK.out HN1.out HN2.out HBG.out HP.out HC.out HS.out).mono ?_); clear hF; rintro e w_HB ⟨rfl, hE⟩; rw [HSN.out] at hE; have HBB := Aside0.mk hE.bb5; clear hE; (try have f0_HBB := HBB.out.fr_ 2 0 rfl); (try have z0_HBB := HBB.out.at_ 2 0 rfl rfl); (try have f1_HBB := HBB.out.fr_ 2 1 rfl); (try have z1_HBB := HBB.out.at_ 2 1 rfl rfl); (try have f2_HBB := HBB.out.fr_ 2 2 rfl); (try have z2_HBB := HBB.out.at_ 2 2 rfl rfl); (try have f3_HBB := HBB.out.fr_ 2 3 rfl); (try have z3_HBB := HBB.out.at_ 2 3 rfl rfl)))
      | ((go_at_call 63; (with_reducible refine (winnowlaw19_attempt.calls t P0 q0_ r2 P1 q1_ r3 false tk tb n _ ((HBB.out).row_ 0 rfl) ((HBB.out).cap_ 0 rfl).2 ((HBB.out).row_ 1 rfl) ((HBB.out).cap_ 1 rfl).2 HAT.out).mono ?_); rintro e w_HCC ⟨rfl, hB⟩; have HCC := Aside0.mk ((HBB.out).below hB); clear hB; (try have f0_HCC := HCC.out.fr_ 2 0 rfl); (try have z0_HCC := HCC.out.at_ 2 0 rfl rfl); (try have f1_HCC := HCC.out.fr_ 2 1 rfl); (try have z1_HCC := HCC.out.at_ 2 1 rfl rfl); (try have f2_HCC := HCC.out.fr_ 2 2 rfl); (try have z2_HCC := HCC.out.at_ 2 2 rfl rfl); (try have f3_HCC := HCC.out.fr_ 2 3 rfl); (try have z3_HCC := HCC.out.at_ 2 3 rfl rfl)))
      | ((go_at_call 63; (with_reducible refine (winnowlaw19_attempt.calls t P0 q0_ r2 P1 q1_ r3 false tk tb n _ (((HBB.out.st2 (.int .i64 t) (.slice P0 r2.length q0_) (.slice P1 r3.length q1_) (.bool false))).row_ 0 rfl) (((HBB.out.st2 (.int .i64 t) (.slice P0 r2.length q0_) (.slice P1 r3.length q1_) (.bool false))).cap_ 0 rfl).2 (((HBB.out.st2 (.int .i64 t) (.slice P0 r2.length q0_) (.slice P1 r3.length q1_) (.bool false))).row_ 1 rfl) (((HBB.out.st2 (.int .i64 t) (.slice P0 r2.length q0_) (.slice P1 r3.length q1_) (.bool false))).cap_ 1 rfl).2 HAT.out).mono ?_); rintro e w_HCC ⟨rfl, hB⟩; have HCC := Aside0.mk (((HBB.out.st2 (.int .i64 t) (.slice P0 r2.length q0_) (.slice P1 r3.length q1_) (.bool false))).below hB); clear hB; (try have f0_HCC := HCC.out.fr_ 2 0 rfl); (try have z0_HCC := HCC.out.at_ 2 0 rfl rfl); (try have f1_HCC := HCC.out.fr_ 2 1 rfl); (try have z1_HCC := HCC.out.at_ 2 1 rfl rfl); (try have f2_HCC := HCC.out.fr_ 2 2 rfl); (try have z2_HCC := HCC.out.at_ 2 2 rfl rfl); (try have f3_HCC := HCC.out.fr_ 2 3 rfl); (try have z3_HCC := HCC.out.at_ 2 3 rfl rfl))))
  all_goals (go_wp2_with fail; first
    | (have hE := HCC.out; refine bodyPost_ret (results_ct rfl _ _ g10 24 #[.int .i64 t, .slice P0 r2.length q0_, .slice P1 r3.length q1_, .bool false] (0, 0) _ rfl (hE.blk_ 2 rfl) Tryd.underlying24 rfl (by kernel_rfl)) rfl ?_; exact ⟨_, _, _, _, by first | simp; done | rfl, hE.sub (.cons _ (.cons _ (.cons _ (.cons _ (.cons _ (List.Sublist.refl _)))))) (List.Sublist.refl _)⟩)
    | (have hE := (HCC.out.st2 (.int .i64 t) (.slice P0 r2.length q0_) (.slice P1 r3.length q1_) (.bool false)); refine bodyPost_ret (results_ct rfl _ _ g10 24 #[.int .i64 t, .slice P0 r2.length q0_, .slice P1 r3.length q1_, .bool false] (0, 0) _ rfl (hE.blk_ 2 rfl) Tryd.underlying24 rfl (by kernel_rfl)) rfl ?_; exact ⟨_, _, _, _, by first | simp; done | rfl, hE.sub (.cons _ (.cons _ (.cons _ (.cons _ (.cons _ (List.Sublist.refl _)))))) (List.Sublist.refl _)⟩))
set_option maxHeartbeats 16000000 in
set_option maxRecDepth 100000 in
theorem made_done_ok {w0 W : World} {B : List Bx} {gN : Nat} {bg ch : Nat → Bool} {s c t : Int} {A0 A1 : Option Addr} {p0 p1 : Nat} {l0 l1 : List S38} {fl : Bool} {x0 x1 x2 x3 : Int} {m r k : Nat} {tk tb : Int} (h : Env w0 (⟨gN, ncells bg ch s c, 56⟩ :: B) (⟨1, k38, 38, .slice A0 l0.length p0, l0⟩ :: ⟨2, k38, 38, .slice A1 l1.length p1, l1⟩ :: []) W) (hT : Tab w0) (hl0 : l0.length ≤ 6000000000000) (hl1 : l1.length ≤ 6000000000000)
    (hpk : winnowlaw19_picked.f x1 m r = some (tk, tb)) (hnu : winnowlaw19_number.f tk tb m = some (k : Int)) {r2 r3 : List S38} (hop : winnowlaw19_few.f x0 0 3 = some 1) (hb : doneP t l0 l1 fl tk tb = (t, r2, r3, false, 0)) (hsz : winnowlaw19_sized.f t r2 r3 false m r = some true) :
    Calls Tryd.prog 35 #[.pointer (some ⟨gN, 0, none⟩), .agg #[.int .i64 t, .slice A0 l0.length p0, .slice A1 l1.length p1, .bool fl], .agg #[.int .i64 x0, .int .i64 x1, .int .i64 x2, .int .i64 x3], .int .i64 m, .int .i64 r] W fun e W' => ∃ (P0 P1 : Option Addr) (q0_ q1_ : Nat), e = .returned (.tuple #[.agg #[.int .i64 t, .slice P0 r2.length q0_, .slice P1 r3.length q1_, .bool false], .bool true]) ∧ Env w0 (⟨gN, ncells bg ch s c, 56⟩ :: B) (⟨3, k38, 38, .slice P0 r2.length q0_, r2⟩ :: ⟨4, k38, 38, .slice P1 r3.length q1_, r3⟩ :: ⟨1, k38, 38, .slice A0 l0.length p0, l0⟩ :: ⟨2, k38, 38, .slice A1 l1.length p1, l1⟩ :: []) W' := by
  have HH := Aside0.mk h
  have HPK := Aside0.mk hpk
  have HNU := Aside0.mk hnu
  have HT := Aside0.mk hT
  have HL0 := Aside0.mk hl0
  have HL1 := Aside0.mk hl1
  have HOP := Aside0.mk hop
  have HB := Aside0.mk hb
  have HSZ := Aside0.mk hsz
  clear hpk hnu hT hl0 hl1 hop hb hsz
  have z0 : (W.alloc (.cells #[.int .i64 t, .slice A0 l0.length p0, .slice A1 l1.length p1, .bool fl] 24)).heap.size = W.heap.size + 1 := by simp
  have z1 : ((W.alloc (.cells #[.int .i64 t, .slice A0 l0.length p0, .slice A1 l1.length p1, .bool fl] 24)).alloc (.cells #[.int .i64 x0, .int .i64 x1, .int .i64 x2, .int .i64 x3] 58)).heap.size = W.heap.size + 1 + 1 := by simp
  have hE0 := ((h.push #[.int .i64 t, .slice A0 l0.length p0, .slice A1 l1.length p1, .bool fl] 24).push #[.int .i64 x0, .int .i64 x1, .int .i64 x2, .int .i64 x3] 58).push #[.int .i64 0, .slice none 0 0, .slice none 0 0, .bool false] 24
  rw [z0, z1] at hE0
  clear z0 z1
  obtain ⟨g10, hg2⟩ : ∃ g, g = W.heap.size + 1 + 1 := ⟨_, rfl⟩
  obtain ⟨g2, hg1⟩ : ∃ g, g = W.heap.size + 1 := ⟨_, rfl⟩
  obtain ⟨g1, hg0⟩ : ∃ g, g = W.heap.size := ⟨_, rfl⟩
  rw [← hg2, ← hg1, ← hg0] at hE0
  obtain ⟨W0, hW0, hE⟩ : ∃ W0, ((W.alloc (.cells #[.int .i64 t, .slice A0 l0.length p0, .slice A1 l1.length p1, .bool fl] 24)).alloc (.cells #[.int .i64 x0, .int .i64 x1, .int .i64 x2, .int .i64 x3] 58)).alloc (.cells #[.int .i64 0, .slice none 0 0, .slice none 0 0, .bool false] 24) = W0 ∧ Env w0 _ _ W0 := ⟨_, rfl, hE0⟩
  have HG0 := Aside0.mk hg0
  have HG1 := Aside0.mk hg1
  have HG2 := Aside0.mk hg2
  have HW0 := Aside0.mk hW0
  have HE := Aside0.mk hE
  clear hE hE0 hW0 hg0 hg1 hg2
  clear h
  have hu24 := Tryd.underlying24
  have hu29 := Tryd.underlying29
  have hu56 := Tryd.underlying56
  have hu58 := Tryd.underlying58
  go_enter Tryd.func35, Tryd.ntmps35
  go_upto_region 1 with fail
  rw [← HG2.out, ← HG1.out, ← HG0.out, HW0.out]
  clear HW0 HG0 HG1 HG2
  have xg2_0 : W0.cell? ⟨g2, 0, none⟩ = some (.int .i64 x0) := HE.out.at_ 1 0 rfl rfl
  have xg2_1 : W0.cell? ⟨g2, 1, none⟩ = some (.int .i64 x1) := HE.out.at_ 1 1 rfl rfl
  have xg2_2 : W0.cell? ⟨g2, 2, none⟩ = some (.int .i64 x2) := HE.out.at_ 1 2 rfl rfl
  have xg2_3 : W0.cell? ⟨g2, 3, none⟩ = some (.int .i64 x3) := HE.out.at_ 1 3 rfl rfl
  go_wp2_with fail
  refine (winnowlaw19_picked.calls x1 m r tk tb _ HPK.out).mono ?_
  clear xg2_0 xg2_1 xg2_2 xg2_3
  rintro e w1 ⟨rfl, hB⟩
  have hE := HE.out.below hB
  clear HE hB
  have HE := Aside0.mk hE
  clear hE
  go_upto_region 2 with fail
  have hE := HE.out.push #[.int .i64 tk, .int .i64 tb] 29
  obtain ⟨g12, hg⟩ : ∃ g, g = w1.heap.size := ⟨_, rfl⟩
  rw [← hg] at hE ⊢
  generalize w1.alloc (.cells #[.int .i64 tk, .int .i64 tb] 29) = w2 at hE ⊢
  clear hg HE
  have HE := Aside0.mk hE
  clear hE
  have xg12_0 : w2.cell? ⟨g12, 0, none⟩ = some (.int .i64 tk) := HE.out.at_ 0 0 rfl rfl
  have xg12_1 : w2.cell? ⟨g12, 1, none⟩ = some (.int .i64 tb) := HE.out.at_ 0 1 rfl rfl
  go_wp2_with fail
  refine (winnowlaw19_number.calls tk tb m k _ HNU.out).mono ?_
  clear xg12_0 xg12_1
  rintro e w3 ⟨rfl, hB⟩
  have hE := HE.out.below hB
  clear HE hB
  have HE := Aside0.mk hE
  clear hE
  have xg2_0 : w3.cell? ⟨g2, 0, none⟩ = some (.int .i64 x0) := HE.out.at_ 2 0 rfl rfl
  have xg2_1 : w3.cell? ⟨g2, 1, none⟩ = some (.int .i64 x1) := HE.out.at_ 2 1 rfl rfl
  have xg2_2 : w3.cell? ⟨g2, 2, none⟩ = some (.int .i64 x2) := HE.out.at_ 2 2 rfl rfl
  have xg2_3 : w3.cell? ⟨g2, 3, none⟩ = some (.int .i64 x3) := HE.out.at_ 2 3 rfl rfl
  go_wp2_with fail
  refine (winnowlaw19_few.calls x0 0 3 1 _ HOP.out).mono ?_
  clear xg2_0 xg2_1 xg2_2 xg2_3
  rintro e w4 ⟨rfl, hB⟩
  have hE := HE.out.below hB.below
  clear HE hB
  have HE := Aside0.mk hE
  clear hE
  have xg1_0 : w4.cell? ⟨g1, 0, none⟩ = some (.int .i64 t) := HE.out.at_ 3 0 rfl rfl
  have xg1_1 : w4.cell? ⟨g1, 1, none⟩ = some (.slice A0 l0.length p0) := HE.out.at_ 3 1 rfl rfl
  have xg1_2 : w4.cell? ⟨g1, 2, none⟩ = some (.slice A1 l1.length p1) := HE.out.at_ 3 2 rfl rfl
  have xg1_3 : w4.cell? ⟨g1, 3, none⟩ = some (.bool fl) := HE.out.at_ 3 3 rfl rfl
  have xg12_0 : w4.cell? ⟨g12, 0, none⟩ = some (.int .i64 tk) := HE.out.at_ 0 0 rfl rfl
  have xg12_1 : w4.cell? ⟨g12, 1, none⟩ = some (.int .i64 tb) := HE.out.at_ 0 1 rfl rfl
  go_wp2_with fail
  refine (done_any t fl _ _ l0 _ _ l1 tk tb t r2 r3 false 0 _ (HE.out.row_ 0 rfl) (HE.out.row_ 1 rfl) HL0.out HL1.out (HE.out.tab HT.out) HB.out).mono ?_
  clear xg1_0 xg1_1 xg1_2 xg1_3 xg12_0 xg12_1
  rintro e w5 ⟨v0, v1, rfl, s0, s1, hB⟩
  have hE := HE.out.rows2 hB rfl s0 s1 3 4 (show ([3, 4, 1, 2] : List Nat).Nodup from by decide) (by decide) (by decide)
  obtain ⟨P0, q0_, rfl⟩ := Kd.R_slice s0
  obtain ⟨P1, q1_, rfl⟩ := Kd.R_slice s1
  clear hB s0 s1 HE
  have HE := Aside0.mk hE
  clear hE
  go_upto_region 11 with fail
  have hE := HE.out.push #[.int .i64 t, .slice P0 r2.length q0_, .slice P1 r3.length q1_, .bool false] 24
  obtain ⟨g18, hg⟩ : ∃ g, g = w5.heap.size := ⟨_, rfl⟩
  rw [← hg] at hE ⊢
  generalize w5.alloc (.cells #[.int .i64 t, .slice P0 r2.length q0_, .slice P1 r3.length q1_, .bool false] 24) = w6 at hE ⊢
  clear hg HE
  have HE := Aside0.mk hE
  clear hE
  go_upto_region 13 with fail
  have HSX := Aside0.mk (fun (w' : World) (z n : Bx) (h : Env w0 (⟨g18, #[.int .i64 t, .slice P0 r2.length q0_, .slice P1 r3.length q1_, .bool false], 24⟩ :: ⟨g12, #[.int .i64 tk, .int .i64 tb], 29⟩ :: z :: ⟨g2, #[.int .i64 x0, .int .i64 x1, .int .i64 x2, .int .i64 x3], 58⟩ :: ⟨g1, #[.int .i64 t, .slice A0 l0.length p0, .slice A1 l1.length p1, .bool fl], 24⟩ :: n :: B) [] w') => (show w'.cell? ⟨g18, 0, none⟩ = some (.int .i64 t) ∧ w'.cell? ⟨g18, 1, none⟩ = some (.slice P0 r2.length q0_) ∧ w'.cell? ⟨g18, 2, none⟩ = some (.slice P1 r3.length q1_) ∧ w'.cell? ⟨g18, 3, none⟩ = some (.bool false) from ⟨h.at_ 0 0 rfl rfl, h.at_ 0 1 rfl rfl, h.at_ 0 2 rfl rfl, h.at_ 0 3 rfl rfl⟩))
  have f10_0 : w6.frozen? ⟨g10, 0, none⟩ = false := HE.out.fr_ 2 0 rfl
  have z10_0 : w6.cell? ⟨g10, 0, none⟩ = some (.int .i64 0) := HE.out.at_ 2 0 rfl rfl
  have f10_1 : w6.frozen? ⟨g10, 1, none⟩ = false := HE.out.fr_ 2 1 rfl
  have z10_1 : w6.cell? ⟨g10, 1, none⟩ = some (.slice none 0 0) := HE.out.at_ 2 1 rfl rfl
  have f10_2 : w6.frozen? ⟨g10, 2, none⟩ = false := HE.out.fr_ 2 2 rfl
  have z10_2 : w6.cell? ⟨g10, 2, none⟩ = some (.slice none 0 0) := HE.out.at_ 2 2 rfl rfl
  have f10_3 : w6.frozen? ⟨g10, 3, none⟩ = false := HE.out.fr_ 2 3 rfl
  have z10_3 : w6.cell? ⟨g10, 3, none⟩ = some (.bool false) := HE.out.at_ 2 3 rfl rfl
  go_region_held3 (fun w' => w'.cell? ⟨g18, 0, none⟩ = some (.int .i64 t) ∧ w'.cell? ⟨g18, 1, none⟩ = some (.slice P0 r2.length q0_) ∧ w'.cell? ⟨g18, 2, none⟩ = some (.slice P1 r3.length q1_) ∧ w'.cell? ⟨g18, 3, none⟩ = some (.bool false)) (first
      | (with_reducible exact HSX.out _ _ _ HA.out.bare)
      | (with_reducible exact HSX.out _ _ _ HA.out.drew.bare)
      | (with_reducible exact HSX.out _ _ _ (HA.out.st2 (.int .i64 t) (.slice P0 r2.length q0_) (.slice P1 r3.length q1_) (.bool false)).bare)
      | (with_reducible exact HSX.out _ _ _ (HA.out.st2 (.int .i64 t) (.slice P0 r2.length q0_) (.slice P1 r3.length q1_) (.bool false)).drew.bare)
      | (with_reducible exact HSX.out _ _ _ HE.out.bare)
      | (with_reducible exact HSX.out _ _ _ HE.out.drew.bare)
      | (with_reducible exact HSX.out _ _ _ (HE.out.st2 (.int .i64 t) (.slice P0 r2.length q0_) (.slice P1 r3.length q1_) (.bool false)).bare)
      | (with_reducible exact HSX.out _ _ _ (HE.out.st2 (.int .i64 t) (.slice P0 r2.length q0_) (.slice P1 r3.length q1_) (.bool false)).drew.bare)) (first
      | ((go_at_call 34; (with_reducible refine (winnowlaw19_sized.calls t P0 q0_ r2 P1 q1_ r3 false m r true _ (((HE.out.drew)).row_ 0 rfl) (((HE.out.drew)).cap_ 0 rfl).2 (((HE.out.drew)).row_ 1 rfl) (((HE.out.drew)).cap_ 1 rfl).2 HSZ.out).mono ?_); rintro e w_HA ⟨rfl, hB⟩; have HA := Aside0.mk (((HE.out.drew)).below hB); clear hB; (try have f0_HA := HA.out.fr_ 2 0 rfl); (try have z0_HA := HA.out.at_ 2 0 rfl rfl); (try have f1_HA := HA.out.fr_ 2 1 rfl); (try have z1_HA := HA.out.at_ 2 1 rfl rfl); (try have f2_HA := HA.out.fr_ 2 2 rfl); (try have z2_HA := HA.out.at_ 2 2 rfl rfl); (try have f3_HA := HA.out.fr_ 2 3 rfl); (try have z3_HA := HA.out.at_ 2 3 rfl rfl)))
      | ((go_at_call 34; (with_reducible refine (winnowlaw19_sized.calls t P0 q0_ r2 P1 q1_ r3 false m r true _ (((HE.out.st2 (.int .i64 t) (.slice P0 r2.length q0_) (.slice P1 r3.length q1_) (.bool false)).drew).row_ 0 rfl) (((HE.out.st2 (.int .i64 t) (.slice P0 r2.length q0_) (.slice P1 r3.length q1_) (.bool false)).drew).cap_ 0 rfl).2 (((HE.out.st2 (.int .i64 t) (.slice P0 r2.length q0_) (.slice P1 r3.length q1_) (.bool false)).drew).row_ 1 rfl) (((HE.out.st2 (.int .i64 t) (.slice P0 r2.length q0_) (.slice P1 r3.length q1_) (.bool false)).drew).cap_ 1 rfl).2 HSZ.out).mono ?_); rintro e w_HA ⟨rfl, hB⟩; have HA := Aside0.mk (((HE.out.st2 (.int .i64 t) (.slice P0 r2.length q0_) (.slice P1 r3.length q1_) (.bool false)).drew).below hB); clear hB; (try have f0_HA := HA.out.fr_ 2 0 rfl); (try have z0_HA := HA.out.at_ 2 0 rfl rfl); (try have f1_HA := HA.out.fr_ 2 1 rfl); (try have z1_HA := HA.out.at_ 2 1 rfl rfl); (try have f2_HA := HA.out.fr_ 2 2 rfl); (try have z2_HA := HA.out.at_ 2 2 rfl rfl); (try have f3_HA := HA.out.fr_ 2 3 rfl); (try have z3_HA := HA.out.at_ 2 3 rfl rfl))))
  all_goals (go_wp2_with fail; first
    | (have hE := HA.out; refine bodyPost_ret (results_ct rfl _ _ g10 24 #[.int .i64 t, .slice P0 r2.length q0_, .slice P1 r3.length q1_, .bool false] (0, 0) _ rfl (hE.blk_ 2 rfl) Tryd.underlying24 rfl (by kernel_rfl)) rfl ?_; exact ⟨_, _, _, _, by first | simp; done | rfl, hE.sub (.cons _ (.cons _ (.cons _ (.cons _ (.cons _ (List.Sublist.refl _)))))) (List.Sublist.refl _)⟩)
    | (have hE := (HA.out.st2 (.int .i64 t) (.slice P0 r2.length q0_) (.slice P1 r3.length q1_) (.bool false)); refine bodyPost_ret (results_ct rfl _ _ g10 24 #[.int .i64 t, .slice P0 r2.length q0_, .slice P1 r3.length q1_, .bool false] (0, 0) _ rfl (hE.blk_ 2 rfl) Tryd.underlying24 rfl (by kernel_rfl)) rfl ?_; exact ⟨_, _, _, _, by first | simp; done | rfl, hE.sub (.cons _ (.cons _ (.cons _ (.cons _ (.cons _ (List.Sublist.refl _)))))) (List.Sublist.refl _)⟩))
set_option maxHeartbeats 16000000 in
set_option maxRecDepth 100000 in
theorem made_died_ok {w0 W : World} {B : List Bx} {gN : Nat} {bg ch : Nat → Bool} {s c t : Int} {A0 A1 : Option Addr} {p0 p1 : Nat} {l0 l1 : List S38} {fl : Bool} {x0 x1 x2 x3 : Int} {m r k : Nat} {tk tb : Int} (h : Env w0 (⟨gN, ncells bg ch s c, 56⟩ :: B) (⟨1, k38, 38, .slice A0 l0.length p0, l0⟩ :: ⟨2, k38, 38, .slice A1 l1.length p1, l1⟩ :: []) W) (hT : Tab w0) (hl0 : l0.length ≤ 6000000000000) (hl1 : l1.length ≤ 6000000000000)
    (hpk : winnowlaw19_picked.f x1 m r = some (tk, tb)) (hnu : winnowlaw19_number.f tk tb m = some (k : Int)) {r2 r3 : List S38} {r4 : Bool} {n : Nat} (hop : winnowlaw19_few.f x0 0 3 = some 2) (hb : diedP t l0 l1 fl tk tb = (t, r2, r3, r4, 0)) (hsz : winnowlaw19_sized.f t r2 r3 r4 m r = some true) (hat : winnowlaw19_attempt.f t l0 l1 fl tk tb = some (n : Int)) (hk : k < 16) (hn1 : 1 ≤ n) (hn2 : n ≤ 16) (hbg : bg (k * 17 + n) = true) (hch : ch (k * 17 + n) = false) (hs : 0 ≤ c ∧ c ≤ 1000000000000) :
    Calls Tryd.prog 35 #[.pointer (some ⟨gN, 0, none⟩), .agg #[.int .i64 t, .slice A0 l0.length p0, .slice A1 l1.length p1, .bool fl], .agg #[.int .i64 x0, .int .i64 x1, .int .i64 x2, .int .i64 x3], .int .i64 m, .int .i64 r] W fun e W' => ∃ (P0 P1 : Option Addr) (q0_ q1_ : Nat), e = .returned (.tuple #[.agg #[.int .i64 t, .slice P0 r2.length q0_, .slice P1 r3.length q1_, .bool r4], .bool true]) ∧ Env w0 (⟨gN, ncells bg (upd ch (k * 17 + n)) s (c + 1), 56⟩ :: B) (⟨3, k38, 38, .slice P0 r2.length q0_, r2⟩ :: ⟨4, k38, 38, .slice P1 r3.length q1_, r3⟩ :: ⟨1, k38, 38, .slice A0 l0.length p0, l0⟩ :: ⟨2, k38, 38, .slice A1 l1.length p1, l1⟩ :: []) W' := by
  have HH := Aside0.mk h
  have HPK := Aside0.mk hpk
  have HNU := Aside0.mk hnu
  have HT := Aside0.mk hT
  have HL0 := Aside0.mk hl0
  have HL1 := Aside0.mk hl1
  have HOP := Aside0.mk hop
  have HB := Aside0.mk hb
  have HSZ := Aside0.mk hsz
  have HAT := Aside0.mk hat
  have HK := Aside0.mk hk
  have HN1 := Aside0.mk hn1
  have HN2 := Aside0.mk hn2
  have HBG := Aside0.mk hbg
  have HCH := Aside0.mk hch
  have HS := Aside0.mk hs
  clear hpk hnu hT hl0 hl1 hop hb hsz hat hk hn1 hn2 hbg hch hs
  have z0 : (W.alloc (.cells #[.int .i64 t, .slice A0 l0.length p0, .slice A1 l1.length p1, .bool fl] 24)).heap.size = W.heap.size + 1 := by simp
  have z1 : ((W.alloc (.cells #[.int .i64 t, .slice A0 l0.length p0, .slice A1 l1.length p1, .bool fl] 24)).alloc (.cells #[.int .i64 x0, .int .i64 x1, .int .i64 x2, .int .i64 x3] 58)).heap.size = W.heap.size + 1 + 1 := by simp
  have hE0 := ((h.push #[.int .i64 t, .slice A0 l0.length p0, .slice A1 l1.length p1, .bool fl] 24).push #[.int .i64 x0, .int .i64 x1, .int .i64 x2, .int .i64 x3] 58).push #[.int .i64 0, .slice none 0 0, .slice none 0 0, .bool false] 24
  rw [z0, z1] at hE0
  clear z0 z1
  obtain ⟨g10, hg2⟩ : ∃ g, g = W.heap.size + 1 + 1 := ⟨_, rfl⟩
  obtain ⟨g2, hg1⟩ : ∃ g, g = W.heap.size + 1 := ⟨_, rfl⟩
  obtain ⟨g1, hg0⟩ : ∃ g, g = W.heap.size := ⟨_, rfl⟩
  rw [← hg2, ← hg1, ← hg0] at hE0
  obtain ⟨W0, hW0, hE⟩ : ∃ W0, ((W.alloc (.cells #[.int .i64 t, .slice A0 l0.length p0, .slice A1 l1.length p1, .bool fl] 24)).alloc (.cells #[.int .i64 x0, .int .i64 x1, .int .i64 x2, .int .i64 x3] 58)).alloc (.cells #[.int .i64 0, .slice none 0 0, .slice none 0 0, .bool false] 24) = W0 ∧ Env w0 _ _ W0 := ⟨_, rfl, hE0⟩
  have HG0 := Aside0.mk hg0
  have HG1 := Aside0.mk hg1
  have HG2 := Aside0.mk hg2
  have HW0 := Aside0.mk hW0
  have HE := Aside0.mk hE
  clear hE hE0 hW0 hg0 hg1 hg2
  clear h
  have hu24 := Tryd.underlying24
  have hu29 := Tryd.underlying29
  have hu56 := Tryd.underlying56
  have hu58 := Tryd.underlying58
  go_enter Tryd.func35, Tryd.ntmps35
  go_upto_region 1 with fail
  rw [← HG2.out, ← HG1.out, ← HG0.out, HW0.out]
  clear HW0 HG0 HG1 HG2
  have xg2_0 : W0.cell? ⟨g2, 0, none⟩ = some (.int .i64 x0) := HE.out.at_ 1 0 rfl rfl
  have xg2_1 : W0.cell? ⟨g2, 1, none⟩ = some (.int .i64 x1) := HE.out.at_ 1 1 rfl rfl
  have xg2_2 : W0.cell? ⟨g2, 2, none⟩ = some (.int .i64 x2) := HE.out.at_ 1 2 rfl rfl
  have xg2_3 : W0.cell? ⟨g2, 3, none⟩ = some (.int .i64 x3) := HE.out.at_ 1 3 rfl rfl
  go_wp2_with fail
  refine (winnowlaw19_picked.calls x1 m r tk tb _ HPK.out).mono ?_
  clear xg2_0 xg2_1 xg2_2 xg2_3
  rintro e w1 ⟨rfl, hB⟩
  have hE := HE.out.below hB
  clear HE hB
  have HE := Aside0.mk hE
  clear hE
  go_upto_region 2 with fail
  have hE := HE.out.push #[.int .i64 tk, .int .i64 tb] 29
  obtain ⟨g12, hg⟩ : ∃ g, g = w1.heap.size := ⟨_, rfl⟩
  rw [← hg] at hE ⊢
  generalize w1.alloc (.cells #[.int .i64 tk, .int .i64 tb] 29) = w2 at hE ⊢
  clear hg HE
  have HE := Aside0.mk hE
  clear hE
  have xg12_0 : w2.cell? ⟨g12, 0, none⟩ = some (.int .i64 tk) := HE.out.at_ 0 0 rfl rfl
  have xg12_1 : w2.cell? ⟨g12, 1, none⟩ = some (.int .i64 tb) := HE.out.at_ 0 1 rfl rfl
  go_wp2_with fail
  refine (winnowlaw19_number.calls tk tb m k _ HNU.out).mono ?_
  clear xg12_0 xg12_1
  rintro e w3 ⟨rfl, hB⟩
  have hE := HE.out.below hB
  clear HE hB
  have HE := Aside0.mk hE
  clear hE
  have xg2_0 : w3.cell? ⟨g2, 0, none⟩ = some (.int .i64 x0) := HE.out.at_ 2 0 rfl rfl
  have xg2_1 : w3.cell? ⟨g2, 1, none⟩ = some (.int .i64 x1) := HE.out.at_ 2 1 rfl rfl
  have xg2_2 : w3.cell? ⟨g2, 2, none⟩ = some (.int .i64 x2) := HE.out.at_ 2 2 rfl rfl
  have xg2_3 : w3.cell? ⟨g2, 3, none⟩ = some (.int .i64 x3) := HE.out.at_ 2 3 rfl rfl
  go_wp2_with fail
  refine (winnowlaw19_few.calls x0 0 3 2 _ HOP.out).mono ?_
  clear xg2_0 xg2_1 xg2_2 xg2_3
  rintro e w4 ⟨rfl, hB⟩
  have hE := HE.out.below hB.below
  clear HE hB
  have HE := Aside0.mk hE
  clear hE
  have xg1_0 : w4.cell? ⟨g1, 0, none⟩ = some (.int .i64 t) := HE.out.at_ 3 0 rfl rfl
  have xg1_1 : w4.cell? ⟨g1, 1, none⟩ = some (.slice A0 l0.length p0) := HE.out.at_ 3 1 rfl rfl
  have xg1_2 : w4.cell? ⟨g1, 2, none⟩ = some (.slice A1 l1.length p1) := HE.out.at_ 3 2 rfl rfl
  have xg1_3 : w4.cell? ⟨g1, 3, none⟩ = some (.bool fl) := HE.out.at_ 3 3 rfl rfl
  have xg12_0 : w4.cell? ⟨g12, 0, none⟩ = some (.int .i64 tk) := HE.out.at_ 0 0 rfl rfl
  have xg12_1 : w4.cell? ⟨g12, 1, none⟩ = some (.int .i64 tb) := HE.out.at_ 0 1 rfl rfl
  go_wp2_with fail
  refine (died_any t fl _ _ l0 _ _ l1 tk tb t r2 r3 r4 0 _ (HE.out.row_ 0 rfl) (HE.out.row_ 1 rfl) HL0.out HL1.out (HE.out.tab HT.out) HB.out).mono ?_
  clear xg1_0 xg1_1 xg1_2 xg1_3 xg12_0 xg12_1
  rintro e w5 ⟨v0, v1, rfl, s0, s1, hB⟩
  have hE := HE.out.rows2 hB rfl s0 s1 3 4 (show ([3, 4, 1, 2] : List Nat).Nodup from by decide) (by decide) (by decide)
  obtain ⟨P0, q0_, rfl⟩ := Kd.R_slice s0
  obtain ⟨P1, q1_, rfl⟩ := Kd.R_slice s1
  clear hB s0 s1 HE
  have HE := Aside0.mk hE
  clear hE
  go_upto_region 16 with fail
  have hE := HE.out.push #[.int .i64 t, .slice P0 r2.length q0_, .slice P1 r3.length q1_, .bool r4] 24
  obtain ⟨g20, hg⟩ : ∃ g, g = w5.heap.size := ⟨_, rfl⟩
  rw [← hg] at hE ⊢
  generalize w5.alloc (.cells #[.int .i64 t, .slice P0 r2.length q0_, .slice P1 r3.length q1_, .bool r4] 24) = w6 at hE ⊢
  clear hg HE
  have HE := Aside0.mk hE
  clear hE
  go_upto_region 18 with fail
  have HSX := Aside0.mk (fun (w' : World) (z n : Bx) (h : Env w0 (⟨g20, #[.int .i64 t, .slice P0 r2.length q0_, .slice P1 r3.length q1_, .bool r4], 24⟩ :: ⟨g12, #[.int .i64 tk, .int .i64 tb], 29⟩ :: z :: ⟨g2, #[.int .i64 x0, .int .i64 x1, .int .i64 x2, .int .i64 x3], 58⟩ :: ⟨g1, #[.int .i64 t, .slice A0 l0.length p0, .slice A1 l1.length p1, .bool fl], 24⟩ :: n :: B) [] w') => (show w'.cell? ⟨g20, 0, none⟩ = some (.int .i64 t) ∧ w'.cell? ⟨g20, 1, none⟩ = some (.slice P0 r2.length q0_) ∧ w'.cell? ⟨g20, 2, none⟩ = some (.slice P1 r3.length q1_) ∧ w'.cell? ⟨g20, 3, none⟩ = some (.bool r4) ∧ w'.cell? ⟨g12, 0, none⟩ = some (.int .i64 tk) ∧ w'.cell? ⟨g12, 1, none⟩ = some (.int .i64 tb) ∧ w'.cell? ⟨g1, 0, none⟩ = some (.int .i64 t) ∧ w'.cell? ⟨g1, 1, none⟩ = some (.slice A0 l0.length p0) ∧ w'.cell? ⟨g1, 2, none⟩ = some (.slice A1 l1.length p1) ∧ w'.cell? ⟨g1, 3, none⟩ = some (.bool fl) from ⟨h.at_ 0 0 rfl rfl, h.at_ 0 1 rfl rfl, h.at_ 0 2 rfl rfl, h.at_ 0 3 rfl rfl, h.at_ 1 0 rfl rfl, h.at_ 1 1 rfl rfl, h.at_ 4 0 rfl rfl, h.at_ 4 1 rfl rfl, h.at_ 4 2 rfl rfl, h.at_ 4 3 rfl rfl⟩))
  have f10_0 : w6.frozen? ⟨g10, 0, none⟩ = false := HE.out.fr_ 2 0 rfl
  have z10_0 : w6.cell? ⟨g10, 0, none⟩ = some (.int .i64 0) := HE.out.at_ 2 0 rfl rfl
  have f10_1 : w6.frozen? ⟨g10, 1, none⟩ = false := HE.out.fr_ 2 1 rfl
  have z10_1 : w6.cell? ⟨g10, 1, none⟩ = some (.slice none 0 0) := HE.out.at_ 2 1 rfl rfl
  have f10_2 : w6.frozen? ⟨g10, 2, none⟩ = false := HE.out.fr_ 2 2 rfl
  have z10_2 : w6.cell? ⟨g10, 2, none⟩ = some (.slice none 0 0) := HE.out.at_ 2 2 rfl rfl
  have f10_3 : w6.frozen? ⟨g10, 3, none⟩ = false := HE.out.fr_ 2 3 rfl
  have z10_3 : w6.cell? ⟨g10, 3, none⟩ = some (.bool false) := HE.out.at_ 2 3 rfl rfl
  go_region_held3 (fun w' => w'.cell? ⟨g20, 0, none⟩ = some (.int .i64 t) ∧ w'.cell? ⟨g20, 1, none⟩ = some (.slice P0 r2.length q0_) ∧ w'.cell? ⟨g20, 2, none⟩ = some (.slice P1 r3.length q1_) ∧ w'.cell? ⟨g20, 3, none⟩ = some (.bool r4) ∧ w'.cell? ⟨g12, 0, none⟩ = some (.int .i64 tk) ∧ w'.cell? ⟨g12, 1, none⟩ = some (.int .i64 tb) ∧ w'.cell? ⟨g1, 0, none⟩ = some (.int .i64 t) ∧ w'.cell? ⟨g1, 1, none⟩ = some (.slice A0 l0.length p0) ∧ w'.cell? ⟨g1, 2, none⟩ = some (.slice A1 l1.length p1) ∧ w'.cell? ⟨g1, 3, none⟩ = some (.bool fl)) (first
      | (with_reducible exact HSX.out _ _ _ HBB.out.bare)
      | (with_reducible exact HSX.out _ _ _ HBB.out.drew.bare)
      | (with_reducible exact HSX.out _ _ _ (HBB.out.st2 (.int .i64 t) (.slice P0 r2.length q0_) (.slice P1 r3.length q1_) (.bool r4)).bare)
      | (with_reducible exact HSX.out _ _ _ (HBB.out.st2 (.int .i64 t) (.slice P0 r2.length q0_) (.slice P1 r3.length q1_) (.bool r4)).drew.bare)
      | (with_reducible exact HSX.out _ _ _ HCC.out.bare)
      | (with_reducible exact HSX.out _ _ _ HCC.out.drew.bare)
      | (with_reducible exact HSX.out _ _ _ (HCC.out.st2 (.int .i64 t) (.slice P0 r2.length q0_) (.slice P1 r3.length q1_) (.bool r4)).bare)
      | (with_reducible exact HSX.out _ _ _ (HCC.out.st2 (.int .i64 t) (.slice P0 r2.length q0_) (.slice P1 r3.length q1_) (.bool r4)).drew.bare)
      | (with_reducible exact HSX.out _ _ _ HA.out.bare)
      | (with_reducible exact HSX.out _ _ _ HA.out.drew.bare)
      | (with_reducible exact HSX.out _ _ _ (HA.out.st2 (.int .i64 t) (.slice P0 r2.length q0_) (.slice P1 r3.length q1_) (.bool r4)).bare)
      | (with_reducible exact HSX.out _ _ _ (HA.out.st2 (.int .i64 t) (.slice P0 r2.length q0_) (.slice P1 r3.length q1_) (.bool r4)).drew.bare)
      | (with_reducible exact HSX.out _ _ _ HE.out.bare)
      | (with_reducible exact HSX.out _ _ _ HE.out.drew.bare)
      | (with_reducible exact HSX.out _ _ _ (HE.out.st2 (.int .i64 t) (.slice P0 r2.length q0_) (.slice P1 r3.length q1_) (.bool r4)).bare)
      | (with_reducible exact HSX.out _ _ _ (HE.out.st2 (.int .i64 t) (.slice P0 r2.length q0_) (.slice P1 r3.length q1_) (.bool r4)).drew.bare)) (first
      | ((go_at_call 34; (with_reducible refine (winnowlaw19_sized.calls t P0 q0_ r2 P1 q1_ r3 r4 m r true _ (((HE.out.drew)).row_ 0 rfl) (((HE.out.drew)).cap_ 0 rfl).2 (((HE.out.drew)).row_ 1 rfl) (((HE.out.drew)).cap_ 1 rfl).2 HSZ.out).mono ?_); rintro e w_HA ⟨rfl, hB⟩; have HA := Aside0.mk (((HE.out.drew)).below hB); clear hB; (try have f0_HA := HA.out.fr_ 2 0 rfl); (try have z0_HA := HA.out.at_ 2 0 rfl rfl); (try have f1_HA := HA.out.fr_ 2 1 rfl); (try have z1_HA := HA.out.at_ 2 1 rfl rfl); (try have f2_HA := HA.out.fr_ 2 2 rfl); (try have z2_HA := HA.out.at_ 2 2 rfl rfl); (try have f3_HA := HA.out.fr_ 2 3 rfl); (try have z3_HA := HA.out.at_ 2 3 rfl rfl)))
      | ((go_at_call 34; (with_reducible refine (winnowlaw19_sized.calls t P0 q0_ r2 P1 q1_ r3 r4 m r true _ (((HE.out.st2 (.int .i64 t) (.slice P0 r2.length q0_) (.slice P1 r3.length q1_) (.bool r4)).drew).row_ 0 rfl) (((HE.out.st2 (.int .i64 t) (.slice P0 r2.length q0_) (.slice P1 r3.length q1_) (.bool r4)).drew).cap_ 0 rfl).2 (((HE.out.st2 (.int .i64 t) (.slice P0 r2.length q0_) (.slice P1 r3.length q1_) (.bool r4)).drew).row_ 1 rfl) (((HE.out.st2 (.int .i64 t) (.slice P0 r2.length q0_) (.slice P1 r3.length q1_) (.bool r4)).drew).cap_ 1 rfl).2 HSZ.out).mono ?_); rintro e w_HA ⟨rfl, hB⟩; have HA := Aside0.mk (((HE.out.st2 (.int .i64 t) (.slice P0 r2.length q0_) (.slice P1 r3.length q1_) (.bool r4)).drew).below hB); clear hB; (try have f0_HA := HA.out.fr_ 2 0 rfl); (try have z0_HA := HA.out.at_ 2 0 rfl rfl); (try have f1_HA := HA.out.fr_ 2 1 rfl); (try have z1_HA := HA.out.at_ 2 1 rfl rfl); (try have f2_HA := HA.out.fr_ 2 2 rfl); (try have z2_HA := HA.out.at_ 2 2 rfl rfl); (try have f3_HA := HA.out.fr_ 2 3 rfl); (try have z3_HA := HA.out.at_ 2 3 rfl rfl)))
      | ((go_at_call 63; (with_reducible refine (winnowlaw19_attempt.calls t A0 p0 l0 A1 p1 l1 fl tk tb n _ ((HA.out).row_ 2 rfl) ((HA.out).cap_ 2 rfl).2 ((HA.out).row_ 3 rfl) ((HA.out).cap_ 3 rfl).2 HAT.out).mono ?_); rintro e w_HCC ⟨rfl, hB⟩; have HCC := Aside0.mk ((HA.out).below hB); clear hB; (try have f0_HCC := HCC.out.fr_ 2 0 rfl); (try have z0_HCC := HCC.out.at_ 2 0 rfl rfl); (try have f1_HCC := HCC.out.fr_ 2 1 rfl); (try have z1_HCC := HCC.out.at_ 2 1 rfl rfl); (try have f2_HCC := HCC.out.fr_ 2 2 rfl); (try have z2_HCC := HCC.out.at_ 2 2 rfl rfl); (try have f3_HCC := HCC.out.fr_ 2 3 rfl); (try have z3_HCC := HCC.out.at_ 2 3 rfl rfl)))
      | ((go_at_call 63; (with_reducible refine (winnowlaw19_attempt.calls t A0 p0 l0 A1 p1 l1 fl tk tb n _ (((HA.out.st2 (.int .i64 t) (.slice P0 r2.length q0_) (.slice P1 r3.length q1_) (.bool r4))).row_ 2 rfl) (((HA.out.st2 (.int .i64 t) (.slice P0 r2.length q0_) (.slice P1 r3.length q1_) (.bool r4))).cap_ 2 rfl).2 (((HA.out.st2 (.int .i64 t) (.slice P0 r2.length q0_) (.slice P1 r3.length q1_) (.bool r4))).row_ 3 rfl) (((HA.out.st2 (.int .i64 t) (.slice P0 r2.length q0_) (.slice P1 r3.length q1_) (.bool r4))).cap_ 3 rfl).2 HAT.out).mono ?_); rintro e w_HCC ⟨rfl, hB⟩; have HCC := Aside0.mk (((HA.out.st2 (.int .i64 t) (.slice P0 r2.length q0_) (.slice P1 r3.length q1_) (.bool r4))).below hB); clear hB; (try have f0_HCC := HCC.out.fr_ 2 0 rfl); (try have z0_HCC := HCC.out.at_ 2 0 rfl rfl); (try have f1_HCC := HCC.out.fr_ 2 1 rfl); (try have z1_HCC := HCC.out.at_ 2 1 rfl rfl); (try have f2_HCC := HCC.out.fr_ 2 2 rfl); (try have z2_HCC := HCC.out.at_ 2 2 rfl rfl); (try have f3_HCC := HCC.out.fr_ 2 3 rfl); (try have z3_HCC := HCC.out.at_ 2 3 rfl rfl)))
      | ((go_at_call 64; have hF := ((HCC.out)).bf5; (with_reducible refine (charge_env k n hF HK.out HN1.out HN2.out HBG.out HCH.out HS.out).mono ?_); clear hF; rintro e w_HB ⟨rfl, hE⟩; have HBB := Aside0.mk hE.bb5; clear hE; (try have f0_HBB := HBB.out.fr_ 2 0 rfl); (try have z0_HBB := HBB.out.at_ 2 0 rfl rfl); (try have f1_HBB := HBB.out.fr_ 2 1 rfl); (try have z1_HBB := HBB.out.at_ 2 1 rfl rfl); (try have f2_HBB := HBB.out.fr_ 2 2 rfl); (try have z2_HBB := HBB.out.at_ 2 2 rfl rfl); (try have f3_HBB := HBB.out.fr_ 2 3 rfl); (try have z3_HBB := HBB.out.at_ 2 3 rfl rfl)))
      | ((go_at_call 64; have hF := (((HCC.out.st2 (.int .i64 t) (.slice P0 r2.length q0_) (.slice P1 r3.length q1_) (.bool r4)))).bf5; (with_reducible refine (charge_env k n hF HK.out HN1.out HN2.out HBG.out HCH.out HS.out).mono ?_); clear hF; rintro e w_HB ⟨rfl, hE⟩; have HBB := Aside0.mk hE.bb5; clear hE; (try have f0_HBB := HBB.out.fr_ 2 0 rfl); (try have z0_HBB := HBB.out.at_ 2 0 rfl rfl); (try have f1_HBB := HBB.out.fr_ 2 1 rfl); (try have z1_HBB := HBB.out.at_ 2 1 rfl rfl); (try have f2_HBB := HBB.out.fr_ 2 2 rfl); (try have z2_HBB := HBB.out.at_ 2 2 rfl rfl); (try have f3_HBB := HBB.out.fr_ 2 3 rfl); (try have z3_HBB := HBB.out.at_ 2 3 rfl rfl))))
  all_goals (go_wp2_with fail; first
    | (have hE := HBB.out; refine bodyPost_ret (results_ct rfl _ _ g10 24 #[.int .i64 t, .slice P0 r2.length q0_, .slice P1 r3.length q1_, .bool r4] (0, 0) _ rfl (hE.blk_ 2 rfl) Tryd.underlying24 rfl (by kernel_rfl)) rfl ?_; exact ⟨_, _, _, _, by first | simp; done | rfl, hE.sub (.cons _ (.cons _ (.cons _ (.cons _ (.cons _ (List.Sublist.refl _)))))) (List.Sublist.refl _)⟩)
    | (have hE := (HBB.out.st2 (.int .i64 t) (.slice P0 r2.length q0_) (.slice P1 r3.length q1_) (.bool r4)); refine bodyPost_ret (results_ct rfl _ _ g10 24 #[.int .i64 t, .slice P0 r2.length q0_, .slice P1 r3.length q1_, .bool r4] (0, 0) _ rfl (hE.blk_ 2 rfl) Tryd.underlying24 rfl (by kernel_rfl)) rfl ?_; exact ⟨_, _, _, _, by first | simp; done | rfl, hE.sub (.cons _ (.cons _ (.cons _ (.cons _ (.cons _ (List.Sublist.refl _)))))) (List.Sublist.refl _)⟩))
end Go.Proofs.YtponmfnegdlppaaDoor.P

end
