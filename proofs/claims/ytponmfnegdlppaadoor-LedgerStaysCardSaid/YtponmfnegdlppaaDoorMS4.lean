/- Several texts laid together (wip/tools/merge2.py): HMadeB, HMadeC, HMadeD, RunStep, HMove, Pf33, HLX, HStays. -/
import Derived.Test.YtponmfnegdlppaaDoorMS3
import Derived.Outline
import Derived.Deep.DeepCutAuto
import Derived.Deep.RegionHeld3
import Derived.Test.YtponmfnegdlppaaDoorMS1
section
/- made: a move on a book, path by path (printed by HMade.gen.py). -/
namespace Go.Proofs.YtponmfnegdlppaaDoor.P
open Go.RowKit Go.Proofs.YtponmfnegdlppaaDoorW.PrintWords Go.Proofs.YtponmfnegdlppaaDoorW.PrintLast Go.Proofs.YtponmfnegdlppaaDoorW.PrintMore
set_option linter.unusedVariables false
set_option linter.unusedSimpArgs false

set_option maxHeartbeats 16000000 in
set_option maxRecDepth 100000 in
theorem made_begin_ok {w0 W : World} {B : List Bx} {gN : Nat} {bg ch : Nat → Bool} {s c t : Int} {A0 A1 : Option Addr} {p0 p1 : Nat} {l0 l1 : List S38} {fl : Bool} {x0 x1 x2 x3 : Int} {m r k : Nat} {tk tb : Int} (h : Env w0 (⟨gN, ncells bg ch s c, 56⟩ :: B) (⟨1, k38, 38, .slice A0 l0.length p0, l0⟩ :: ⟨2, k38, 38, .slice A1 l1.length p1, l1⟩ :: []) W) (hT : Tab w0) (hl0 : l0.length ≤ 6000000000000) (hl1 : l1.length ≤ 6000000000000)
    (hpk : winnowlaw19_picked.f x1 m r = some (tk, tb)) (hnu : winnowlaw19_number.f tk tb m = some (k : Int)) {r2 r3 : List S38} {n : Nat} {r6 : Bool} {s' : Int} (hop : winnowlaw19_few.f x0 0 3 = some 0) (hb : beginP t l0 l1 fl tk tb = (t, r2, r3, false, (n : Int), r6, 0)) (hsz : winnowlaw19_sized.f t r2 r3 false m r = some true) (hat : winnowlaw19_attempt.f t r2 r3 false tk tb = some (n : Int)) (hk : k < 16) (hn1 : 1 ≤ n) (hn2 : n ≤ 16) (hbg : bg (k * 17 + n) = !r6) (hp : 1 < n → bg (k * 17 + (n - 1)) = true) (hc : r6 = true → 1 < n → ch (k * 17 + (n - 1)) = true) (hs : 0 ≤ s ∧ s ≤ 1000000000000) (hsn : (if r6 = true then s + 1 else s) = s') :
    Calls Tryd.prog 35 #[.pointer (some ⟨gN, 0, none⟩), .agg #[.int .i64 t, .slice A0 l0.length p0, .slice A1 l1.length p1, .bool fl], .agg #[.int .i64 x0, .int .i64 x1, .int .i64 x2, .int .i64 x3], .int .i64 m, .int .i64 r] W fun e W' => ∃ (P0 P1 : Option Addr) (q0_ q1_ : Nat), e = .returned (.tuple #[.agg #[.int .i64 t, .slice P0 r2.length q0_, .slice P1 r3.length q1_, .bool false], .bool true]) ∧ Env w0 (⟨gN, ncells (upd bg (k * 17 + n)) ch s' c, 56⟩ :: B) (⟨3, k38, 38, .slice P0 r2.length q0_, r2⟩ :: ⟨4, k38, 38, .slice P1 r3.length q1_, r3⟩ :: ⟨1, k38, 38, .slice A0 l0.length p0, l0⟩ :: ⟨2, k38, 38, .slice A1 l1.length p1, l1⟩ :: []) W' := by
  have HH := Aside0.mk h
  have HPK := Aside0.mk hpk
  have HNU := Aside0.mk hnu
  have HT := Aside0.mk hT
  have HL0 := Aside0.mk hl0
  have HL1 := Aside0.mk hl1
  have HOP := Aside0.mk hop
  have HB := Aside0.mk hb
  have HSZ := Aside0.mk hsz
  have HAT := Aside0.mk hat
  have HK := Aside0.mk hk
  have HN1 := Aside0.mk hn1
  have HN2 := Aside0.mk hn2
  have HBG := Aside0.mk hbg
  have HP := Aside0.mk hp
  have HC := Aside0.mk hc
  have HS := Aside0.mk hs
  have HSN := Aside0.mk hsn
  clear hpk hnu hT hl0 hl1 hop hb hsz hat hk hn1 hn2 hbg hp hc hs hsn
  have z0 : (W.alloc (.cells #[.int .i64 t, .slice A0 l0.length p0, .slice A1 l1.length p1, .bool fl] 24)).heap.size = W.heap.size + 1 := by simp
  have z1 : ((W.alloc (.cells #[.int .i64 t, .slice A0 l0.length p0, .slice A1 l1.length p1, .bool fl] 24)).alloc (.cells #[.int .i64 x0, .int .i64 x1, .int .i64 x2, .int .i64 x3] 58)).heap.size = W.heap.size + 1 + 1 := by simp
  have hE0 := ((h.push #[.int .i64 t, .slice A0 l0.length p0, .slice A1 l1.length p1, .bool fl] 24).push #[.int .i64 x0, .int .i64 x1, .int .i64 x2, .int .i64 x3] 58).push #[.int .i64 0, .slice none 0 0, .slice none 0 0, .bool false] 24
  rw [z0, z1] at hE0
  clear z0 z1
  obtain ⟨g10, hg2⟩ : ∃ g, g = W.heap.size + 1 + 1 := ⟨_, rfl⟩
  obtain ⟨g2, hg1⟩ : ∃ g, g = W.heap.size + 1 := ⟨_, rfl⟩
  obtain ⟨g1, hg0⟩ : ∃ g, g = W.heap.size := ⟨_, rfl⟩
  rw [← hg2, ← hg1, ← hg0] at hE0
  obtain ⟨W0, hW0, hE⟩ : ∃ W0, ((W.alloc (.cells #[.int .i64 t, .slice A0 l0.length p0, .slice A1 l1.length p1, .bool fl] 24)).alloc (.cells #[.int .i64 x0, .int .i64 x1, .int .i64 x2, .int .i64 x3] 58)).alloc (.cells #[.int .i64 0, .slice none 0 0, .slice none 0 0, .bool false] 24) = W0 ∧ Env w0 _ _ W0 := ⟨_, rfl, hE0⟩
  have HG0 := Aside0.mk hg0
  have HG1 := Aside0.mk hg1
  have HG2 := Aside0.mk hg2
  have HW0 := Aside0.mk hW0
  have HE := Aside0.mk hE
  clear hE hE0 hW0 hg0 hg1 hg2
  clear h
  have hu24 := Tryd.underlying24
  have hu29 := Tryd.underlying29
  have hu56 := Tryd.underlying56
  have hu58 := Tryd.underlying58
  go_enter Tryd.func35, Tryd.ntmps35
  go_upto_region 1 with fail
  rw [← HG2.out, ← HG1.out, ← HG0.out, HW0.out]
  clear HW0 HG0 HG1 HG2
  have xg2_0 : W0.cell? ⟨g2, 0, none⟩ = some (.int .i64 x0) := HE.out.at_ 1 0 rfl rfl
  have xg2_1 : W0.cell? ⟨g2, 1, none⟩ = some (.int .i64 x1) := HE.out.at_ 1 1 rfl rfl
  have xg2_2 : W0.cell? ⟨g2, 2, none⟩ = some (.int .i64 x2) := HE.out.at_ 1 2 rfl rfl
  have xg2_3 : W0.cell? ⟨g2, 3, none⟩ = some (.int .i64 x3) := HE.out.at_ 1 3 rfl rfl
  go_wp2_with fail
  refine (winnowlaw19_picked.calls x1 m r tk tb _ HPK.out).mono ?_
  clear xg2_0 xg2_1 xg2_2 xg2_3
  rintro e w1 ⟨rfl, hB⟩
  have hE := HE.out.below hB
  clear HE hB
  have HE := Aside0.mk hE
  clear hE
  go_upto_region 2 with fail
  have hE := HE.out.push #[.int .i64 tk, .int .i64 tb] 29
  obtain ⟨g12, hg⟩ : ∃ g, g = w1.heap.size := ⟨_, rfl⟩
  rw [← hg] at hE ⊢
  generalize w1.alloc (.cells #[.int .i64 tk, .int .i64 tb] 29) = w2 at hE ⊢
  clear hg HE
  have HE := Aside0.mk hE
  clear hE
  have xg12_0 : w2.cell? ⟨g12, 0, none⟩ = some (.int .i64 tk) := HE.out.at_ 0 0 rfl rfl
  have xg12_1 : w2.cell? ⟨g12, 1, none⟩ = some (.int .i64 tb) := HE.out.at_ 0 1 rfl rfl
  go_wp2_with fail
  refine (winnowlaw19_number.calls tk tb m k _ HNU.out).mono ?_
  clear xg12_0 xg12_1
  rintro e w3 ⟨rfl, hB⟩
  have hE := HE.out.below hB
  clear HE hB
  have HE := Aside0.mk hE
  clear hE
  have xg2_0 : w3.cell? ⟨g2, 0, none⟩ = some (.int .i64 x0) := HE.out.at_ 2 0 rfl rfl
  have xg2_1 : w3.cell? ⟨g2, 1, none⟩ = some (.int .i64 x1) := HE.out.at_ 2 1 rfl rfl
  have xg2_2 : w3.cell? ⟨g2, 2, none⟩ = some (.int .i64 x2) := HE.out.at_ 2 2 rfl rfl
  have xg2_3 : w3.cell? ⟨g2, 3, none⟩ = some (.int .i64 x3) := HE.out.at_ 2 3 rfl rfl
  go_wp2_with fail
  refine (winnowlaw19_few.calls x0 0 3 0 _ HOP.out).mono ?_
  clear xg2_0 xg2_1 xg2_2 xg2_3
  rintro e w4 ⟨rfl, hB⟩
  have hE := HE.out.below hB.below
  clear HE hB
  have HE := Aside0.mk hE
  clear hE
  have xg1_0 : w4.cell? ⟨g1, 0, none⟩ = some (.int .i64 t) := HE.out.at_ 3 0 rfl rfl
  have xg1_1 : w4.cell? ⟨g1, 1, none⟩ = some (.slice A0 l0.length p0) := HE.out.at_ 3 1 rfl rfl
  have xg1_2 : w4.cell? ⟨g1, 2, none⟩ = some (.slice A1 l1.length p1) := HE.out.at_ 3 2 rfl rfl
  have xg1_3 : w4.cell? ⟨g1, 3, none⟩ = some (.bool fl) := HE.out.at_ 3 3 rfl rfl
  have xg12_0 : w4.cell? ⟨g12, 0, none⟩ = some (.int .i64 tk) := HE.out.at_ 0 0 rfl rfl
  have xg12_1 : w4.cell? ⟨g12, 1, none⟩ = some (.int .i64 tb) := HE.out.at_ 0 1 rfl rfl
  go_wp2_with fail
  refine (begin_any t fl _ _ l0 _ _ l1 tk tb t r2 r3 false n r6 0 _ (HE.out.row_ 0 rfl) (HE.out.cap_ 0 rfl).2 (HE.out.row_ 1 rfl) HL0.out HL1.out (HE.out.tab HT.out) HB.out).mono ?_
  clear xg1_0 xg1_1 xg1_2 xg1_3 xg12_0 xg12_1
  rintro e w5 ⟨v0, v1, rfl, s0, s1, hB⟩
  have hE := HE.out.rows2 hB rfl s0 s1 3 4 (show ([3, 4, 1, 2] : List Nat).Nodup from by decide) (by decide) (by decide)
  obtain ⟨P0, q0_, rfl⟩ := Kd.R_slice s0
  obtain ⟨P1, q1_, rfl⟩ := Kd.R_slice s1
  clear hB s0 s1 HE
  have HE := Aside0.mk hE
  clear hE
  go_upto_region 6 with fail
  have hE := HE.out.push #[.int .i64 t, .slice P0 r2.length q0_, .slice P1 r3.length q1_, .bool false] 24
  obtain ⟨g14, hg⟩ : ∃ g, g = w5.heap.size := ⟨_, rfl⟩
  rw [← hg] at hE ⊢
  generalize w5.alloc (.cells #[.int .i64 t, .slice P0 r2.length q0_, .slice P1 r3.length q1_, .bool false] 24) = w6 at hE ⊢
  clear hg HE
  have HE := Aside0.mk hE
  clear hE
  go_upto_region 8 with fail
  have hnn_ : ((n : Int) == (n : Int)) = true := beq_self_eq_true _
  have HSX := Aside0.mk (fun (w' : World) (z n : Bx) (h : Env w0 (⟨g14, #[.int .i64 t, .slice P0 r2.length q0_, .slice P1 r3.length q1_, .bool false], 24⟩ :: ⟨g12, #[.int .i64 tk, .int .i64 tb], 29⟩ :: z :: ⟨g2, #[.int .i64 x0, .int .i64 x1, .int .i64 x2, .int .i64 x3], 58⟩ :: ⟨g1, #[.int .i64 t, .slice A0 l0.length p0, .slice A1 l1.length p1, .bool fl], 24⟩ :: n :: B) [] w') => (show w'.cell? ⟨g14, 0, none⟩ = some (.int .i64 t) ∧ w'.cell? ⟨g14, 1, none⟩ = some (.slice P0 r2.length q0_) ∧ w'.cell? ⟨g14, 2, none⟩ = some (.slice P1 r3.length q1_) ∧ w'.cell? ⟨g14, 3, none⟩ = some (.bool false) ∧ w'.cell? ⟨g12, 0, none⟩ = some (.int .i64 tk) ∧ w'.cell? ⟨g12, 1, none⟩ = some (.int .i64 tb) from ⟨h.at_ 0 0 rfl rfl, h.at_ 0 1 rfl rfl, h.at_ 0 2 rfl rfl, h.at_ 0 3 rfl rfl, h.at_ 1 0 rfl rfl, h.at_ 1 1 rfl rfl⟩))
  have f10_0 : w6.frozen? ⟨g10, 0, none⟩ = false := HE.out.fr_ 2 0 rfl
  have z10_0 : w6.cell? ⟨g10, 0, none⟩ = some (.int .i64 0) := HE.out.at_ 2 0 rfl rfl
  have f10_1 : w6.frozen? ⟨g10, 1, none⟩ = false := HE.out.fr_ 2 1 rfl
  have z10_1 : w6.cell? ⟨g10, 1, none⟩ = some (.slice none 0 0) := HE.out.at_ 2 1 rfl rfl
  have f10_2 : w6.frozen? ⟨g10, 2, none⟩ = false := HE.out.fr_ 2 2 rfl
  have z10_2 : w6.cell? ⟨g10, 2, none⟩ = some (.slice none 0 0) := HE.out.at_ 2 2 rfl rfl
  have f10_3 : w6.frozen? ⟨g10, 3, none⟩ = false := HE.out.fr_ 2 3 rfl
  have z10_3 : w6.cell? ⟨g10, 3, none⟩ = some (.bool false) := HE.out.at_ 2 3 rfl rfl
  go_region_held3 (fun w' => w'.cell? ⟨g14, 0, none⟩ = some (.int .i64 t) ∧ w'.cell? ⟨g14, 1, none⟩ = some (.slice P0 r2.length q0_) ∧ w'.cell? ⟨g14, 2, none⟩ = some (.slice P1 r3.length q1_) ∧ w'.cell? ⟨g14, 3, none⟩ = some (.bool false) ∧ w'.cell? ⟨g12, 0, none⟩ = some (.int .i64 tk) ∧ w'.cell? ⟨g12, 1, none⟩ = some (.int .i64 tb)) (first
      | (with_reducible exact HSX.out _ _ _ HCC.out.bare)
      | (with_reducible exact HSX.out _ _ _ HCC.out.drew.bare)
      | (with_reducible exact HSX.out _ _ _ (HCC.out.st2 (.int .i64 t) (.slice P0 r2.length q0_) (.slice P1 r3.length q1_) (.bool false)).bare)
      | (with_reducible exact HSX.out _ _ _ (HCC.out.st2 (.int .i64 t) (.slice P0 r2.length q0_) (.slice P1 r3.length q1_) (.bool false)).drew.bare)
      | (with_reducible exact HSX.out _ _ _ HBB.out.bare)
      | (with_reducible exact HSX.out _ _ _ HBB.out.drew.bare)
      | (with_reducible exact HSX.out _ _ _ (HBB.out.st2 (.int .i64 t) (.slice P0 r2.length q0_) (.slice P1 r3.length q1_) (.bool false)).bare)
      | (with_reducible exact HSX.out _ _ _ (HBB.out.st2 (.int .i64 t) (.slice P0 r2.length q0_) (.slice P1 r3.length q1_) (.bool false)).drew.bare)
      | (with_reducible exact HSX.out _ _ _ HA.out.bare)
      | (with_reducible exact HSX.out _ _ _ HA.out.drew.bare)
      | (with_reducible exact HSX.out _ _ _ (HA.out.st2 (.int .i64 t) (.slice P0 r2.length q0_) (.slice P1 r3.length q1_) (.bool false)).bare)
      | (with_reducible exact HSX.out _ _ _ (HA.out.st2 (.int .i64 t) (.slice P0 r2.length q0_) (.slice P1 r3.length q1_) (.bool false)).drew.bare)
      | (with_reducible exact HSX.out _ _ _ HE.out.bare)
      | (with_reducible exact HSX.out _ _ _ HE.out.drew.bare)
      | (with_reducible exact HSX.out _ _ _ (HE.out.st2 (.int .i64 t) (.slice P0 r2.length q0_) (.slice P1 r3.length q1_) (.bool false)).bare)
      | (with_reducible exact HSX.out _ _ _ (HE.out.st2 (.int .i64 t) (.slice P0 r2.length q0_) (.slice P1 r3.length q1_) (.bool false)).drew.bare)) (first
      | ((go_at_call 34; (with_reducible refine (winnowlaw19_sized.calls t P0 q0_ r2 P1 q1_ r3 false m r true _ (((HE.out.drew)).row_ 0 rfl) (((HE.out.drew)).cap_ 0 rfl).2 (((HE.out.drew)).row_ 1 rfl) (((HE.out.drew)).cap_ 1 rfl).2 HSZ.out).mono ?_); rintro e w_HA ⟨rfl, hB⟩; have HA := Aside0.mk (((HE.out.drew)).below hB); clear hB; (try have f0_HA := HA.out.fr_ 2 0 rfl); (try have z0_HA := HA.out.at_ 2 0 rfl rfl); (try have f1_HA := HA.out.fr_ 2 1 rfl); (try have z1_HA := HA.out.at_ 2 1 rfl rfl); (try have f2_HA := HA.out.fr_ 2 2 rfl); (try have z2_HA := HA.out.at_ 2 2 rfl rfl); (try have f3_HA := HA.out.fr_ 2 3 rfl); (try have z3_HA := HA.out.at_ 2 3 rfl rfl)))
      | ((go_at_call 34; (with_reducible refine (winnowlaw19_sized.calls t P0 q0_ r2 P1 q1_ r3 false m r true _ (((HE.out.st2 (.int .i64 t) (.slice P0 r2.length q0_) (.slice P1 r3.length q1_) (.bool false)).drew).row_ 0 rfl) (((HE.out.st2 (.int .i64 t) (.slice P0 r2.length q0_) (.slice P1 r3.length q1_) (.bool false)).drew).cap_ 0 rfl).2 (((HE.out.st2 (.int .i64 t) (.slice P0 r2.length q0_) (.slice P1 r3.length q1_) (.bool false)).drew).row_ 1 rfl) (((HE.out.st2 (.int .i64 t) (.slice P0 r2.length q0_) (.slice P1 r3.length q1_) (.bool false)).drew).cap_ 1 rfl).2 HSZ.out).mono ?_); rintro e w_HA ⟨rfl, hB⟩; have HA := Aside0.mk (((HE.out.st2 (.int .i64 t) (.slice P0 r2.length q0_) (.slice P1 r3.length q1_) (.bool false)).drew).below hB); clear hB; (try have f0_HA := HA.out.fr_ 2 0 rfl); (try have z0_HA := HA.out.at_ 2 0 rfl rfl); (try have f1_HA := HA.out.fr_ 2 1 rfl); (try have z1_HA := HA.out.at_ 2 1 rfl rfl); (try have f2_HA := HA.out.fr_ 2 2 rfl); (try have z2_HA := HA.out.at_ 2 2 rfl rfl); (try have f3_HA := HA.out.fr_ 2 3 rfl); (try have z3_HA := HA.out.at_ 2 3 rfl rfl)))
      | ((go_at_call 62; have hF := ((HA.out)).bf5; (with_reducible refine (begin_env k n r6 hF HK.out HN1.out HN2.out HBG.out HP.out HC.out HS.out).mono ?_); clear hF; rintro e w_HB ⟨rfl, hE⟩; rw [HSN.out] at hE; have HBB := Aside0.mk hE.bb5; clear hE; (try have f0_HBB := HBB.out.fr_ 2 0 rfl); (try have z0_HBB := HBB.out.at_ 2 0 rfl rfl); (try have f1_HBB := HBB.out.fr_ 2 1 rfl); (try have z1_HBB := HBB.out.at_ 2 1 rfl rfl); (try have f2_HBB := HBB.out.fr_ 2 2 rfl); (try have z2_HBB := HBB.out.at_ 2 2 rfl rfl); (try have f3_HBB := HBB.out.fr_ 2 3 rfl); (try have z3_HBB := HBB.out.at_ 2 3 rfl rfl)))
      | ((go_at_call 62; have hF := (((HA.out.st2 (.int .i64 t) (.slice P0 r2.length q0_) (.slice P1 r3.length q1_) (.bool false)))).bf5; (with_reducible refine (begin_env k n r6 hF HK.out HN1.out HN2.out HBG.out HP.out HC.out HS.out).mono ?_); clear hF; rintro e w_HB ⟨rfl, hE⟩; rw [HSN.out] at hE; have HBB := Aside0.mk hE.bb5; clear hE; (try have f0_HBB := HBB.out.fr_ 2 0 rfl); (try have z0_HBB := HBB.out.at_ 2 0 rfl rfl); (try have f1_HBB := HBB.out.fr_ 2 1 rfl); (try have z1_HBB := HBB.out.at_ 2 1 rfl rfl); (try have f2_HBB := HBB.out.fr_ 2 2 rfl); (try have z2_HBB := HBB.out.at_ 2 2 rfl rfl); (try have f3_HBB := HBB.out.fr_ 2 3 rfl); (try have z3_HBB := HBB.out.at_ 2 3 rfl rfl)))
      | ((go_at_call 63; (with_reducible refine (winnowlaw19_attempt.calls t P0 q0_ r2 P1 q1_ r3 false tk tb n _ ((HBB.out).row_ 0 rfl) ((HBB.out).cap_ 0 rfl).2 ((HBB.out).row_ 1 rfl) ((HBB.out).cap_ 1 rfl).2 HAT.out).mono ?_); rintro e w_HCC ⟨rfl, hB⟩; have HCC := Aside0.mk ((HBB.out).below hB); clear hB; (try have f0_HCC := HCC.out.fr_ 2 0 rfl); (try have z0_HCC := HCC.out.at_ 2 0 rfl rfl); (try have f1_HCC := HCC.out.fr_ 2 1 rfl); (try have z1_HCC := HCC.out.at_ 2 1 rfl rfl); (try have f2_HCC := HCC.out.fr_ 2 2 rfl); (try have z2_HCC := HCC.out.at_ 2 2 rfl rfl); (try have f3_HCC := HCC.out.fr_ 2 3 rfl); (try have z3_HCC := HCC.out.at_ 2 3 rfl rfl)))
      | ((go_at_call 63; (with_reducible refine (winnowlaw19_attempt.calls t P0 q0_ r2 P1 q1_ r3 false tk tb n _ (((HBB.out.st2 (.int .i64 t) (.slice P0 r2.length q0_) (.slice P1 r3.length q1_) (.bool false))).row_ 0 rfl) (((HBB.out.st2 (.int .i64 t) (.slice P0 r2.length q0_) (.slice P1 r3.length q1_) (.bool false))).cap_ 0 rfl).2 (((HBB.out.st2 (.int .i64 t) (.slice P0 r2.length q0_) (.slice P1 r3.length q1_) (.bool false))).row_ 1 rfl) (((HBB.out.st2 (.int .i64 t) (.slice P0 r2.length q0_) (.slice P1 r3.length q1_) (.bool false))).cap_ 1 rfl).2 HAT.out).mono ?_); rintro e w_HCC ⟨rfl, hB⟩; have HCC := Aside0.mk (((HBB.out.st2 (.int .i64 t) (.slice P0 r2.length q0_) (.slice P1 r3.length q1_) (.bool false))).below hB); clear hB; (try have f0_HCC := HCC.out.fr_ 2 0 rfl); (try have z0_HCC := HCC.out.at_ 2 0 rfl rfl); (try have f1_HCC := HCC.out.fr_ 2 1 rfl); (try have z1_HCC := HCC.out.at_ 2 1 rfl rfl); (try have f2_HCC := HCC.out.fr_ 2 2 rfl); (try have z2_HCC := HCC.out.at_ 2 2 rfl rfl); (try have f3_HCC := HCC.out.fr_ 2 3 rfl); (try have z3_HCC := HCC.out.at_ 2 3 rfl rfl))))
  all_goals (go_wp2_with fail; first
    | (have hE := HCC.out; refine bodyPost_ret (results_ct rfl _ _ g10 24 #[.int .i64 t, .slice P0 r2.length q0_, .slice P1 r3.length q1_, .bool false] (0, 0) _ rfl (hE.blk_ 2 rfl) Tryd.underlying24 rfl (by kernel_rfl)) rfl ?_; exact ⟨_, _, _, _, by first | simp; done | rfl, hE.sub (.cons _ (.cons _ (.cons _ (.cons _ (.cons _ (List.Sublist.refl _)))))) (List.Sublist.refl _)⟩)
    | (have hE := (HCC.out.st2 (.int .i64 t) (.slice P0 r2.length q0_) (.slice P1 r3.length q1_) (.bool false)); refine bodyPost_ret (results_ct rfl _ _ g10 24 #[.int .i64 t, .slice P0 r2.length q0_, .slice P1 r3.length q1_, .bool false] (0, 0) _ rfl (hE.blk_ 2 rfl) Tryd.underlying24 rfl (by kernel_rfl)) rfl ?_; exact ⟨_, _, _, _, by first | simp; done | rfl, hE.sub (.cons _ (.cons _ (.cons _ (.cons _ (.cons _ (List.Sublist.refl _)))))) (List.Sublist.refl _)⟩))
set_option maxHeartbeats 16000000 in
set_option maxRecDepth 100000 in
theorem made_done_ok {w0 W : World} {B : List Bx} {gN : Nat} {bg ch : Nat → Bool} {s c t : Int} {A0 A1 : Option Addr} {p0 p1 : Nat} {l0 l1 : List S38} {fl : Bool} {x0 x1 x2 x3 : Int} {m r k : Nat} {tk tb : Int} (h : Env w0 (⟨gN, ncells bg ch s c, 56⟩ :: B) (⟨1, k38, 38, .slice A0 l0.length p0, l0⟩ :: ⟨2, k38, 38, .slice A1 l1.length p1, l1⟩ :: []) W) (hT : Tab w0) (hl0 : l0.length ≤ 6000000000000) (hl1 : l1.length ≤ 6000000000000)
    (hpk : winnowlaw19_picked.f x1 m r = some (tk, tb)) (hnu : winnowlaw19_number.f tk tb m = some (k : Int)) {r2 r3 : List S38} (hop : winnowlaw19_few.f x0 0 3 = some 1) (hb : doneP t l0 l1 fl tk tb = (t, r2, r3, false, 0)) (hsz : winnowlaw19_sized.f t r2 r3 false m r = some true) :
    Calls Tryd.prog 35 #[.pointer (some ⟨gN, 0, none⟩), .agg #[.int .i64 t, .slice A0 l0.length p0, .slice A1 l1.length p1, .bool fl], .agg #[.int .i64 x0, .int .i64 x1, .int .i64 x2, .int .i64 x3], .int .i64 m, .int .i64 r] W fun e W' => ∃ (P0 P1 : Option Addr) (q0_ q1_ : Nat), e = .returned (.tuple #[.agg #[.int .i64 t, .slice P0 r2.length q0_, .slice P1 r3.length q1_, .bool false], .bool true]) ∧ Env w0 (⟨gN, ncells bg ch s c, 56⟩ :: B) (⟨3, k38, 38, .slice P0 r2.length q0_, r2⟩ :: ⟨4, k38, 38, .slice P1 r3.length q1_, r3⟩ :: ⟨1, k38, 38, .slice A0 l0.length p0, l0⟩ :: ⟨2, k38, 38, .slice A1 l1.length p1, l1⟩ :: []) W' := by
  have HH := Aside0.mk h
  have HPK := Aside0.mk hpk
  have HNU := Aside0.mk hnu
  have HT := Aside0.mk hT
  have HL0 := Aside0.mk hl0
  have HL1 := Aside0.mk hl1
  have HOP := Aside0.mk hop
  have HB := Aside0.mk hb
  have HSZ := Aside0.mk hsz
  clear hpk hnu hT hl0 hl1 hop hb hsz
  have z0 : (W.alloc (.cells #[.int .i64 t, .slice A0 l0.length p0, .slice A1 l1.length p1, .bool fl] 24)).heap.size = W.heap.size + 1 := by simp
  have z1 : ((W.alloc (.cells #[.int .i64 t, .slice A0 l0.length p0, .slice A1 l1.length p1, .bool fl] 24)).alloc (.cells #[.int .i64 x0, .int .i64 x1, .int .i64 x2, .int .i64 x3] 58)).heap.size = W.heap.size + 1 + 1 := by simp
  have hE0 := ((h.push #[.int .i64 t, .slice A0 l0.length p0, .slice A1 l1.length p1, .bool fl] 24).push #[.int .i64 x0, .int .i64 x1, .int .i64 x2, .int .i64 x3] 58).push #[.int .i64 0, .slice none 0 0, .slice none 0 0, .bool false] 24
  rw [z0, z1] at hE0
  clear z0 z1
  obtain ⟨g10, hg2⟩ : ∃ g, g = W.heap.size + 1 + 1 := ⟨_, rfl⟩
  obtain ⟨g2, hg1⟩ : ∃ g, g = W.heap.size + 1 := ⟨_, rfl⟩
  obtain ⟨g1, hg0⟩ : ∃ g, g = W.heap.size := ⟨_, rfl⟩
  rw [← hg2, ← hg1, ← hg0] at hE0
  obtain ⟨W0, hW0, hE⟩ : ∃ W0, ((W.alloc (.cells #[.int .i64 t, .slice A0 l0.length p0, .slice A1 l1.length p1, .bool fl] 24)).alloc (.cells #[.int .i64 x0, .int .i64 x1, .int .i64 x2, .int .i64 x3] 58)).alloc (.cells #[.int .i64 0, .slice none 0 0, .slice none 0 0, .bool false] 24) = W0 ∧ Env w0 _ _ W0 := ⟨_, rfl, hE0⟩
  have HG0 := Aside0.mk hg0
  have HG1 := Aside0.mk hg1
  have HG2 := Aside0.mk hg2
  have HW0 := Aside0.mk hW0
  have HE := Aside0.mk hE
  clear hE hE0 hW0 hg0 hg1 hg2
  clear h
  have hu24 := Tryd.underlying24
  have hu29 := Tryd.underlying29
  have hu56 := Tryd.underlying56
  have hu58 := Tryd.underlying58
  go_enter Tryd.func35, Tryd.ntmps35
  go_upto_region 1 with fail
  rw [← HG2.out, ← HG1.out, ← HG0.out, HW0.out]
  clear HW0 HG0 HG1 HG2
  have xg2_0 : W0.cell? ⟨g2, 0, none⟩ = some (.int .i64 x0) := HE.out.at_ 1 0 rfl rfl
  have xg2_1 : W0.cell? ⟨g2, 1, none⟩ = some (.int .i64 x1) := HE.out.at_ 1 1 rfl rfl
  have xg2_2 : W0.cell? ⟨g2, 2, none⟩ = some (.int .i64 x2) := HE.out.at_ 1 2 rfl rfl
  have xg2_3 : W0.cell? ⟨g2, 3, none⟩ = some (.int .i64 x3) := HE.out.at_ 1 3 rfl rfl
  go_wp2_with fail
  refine (winnowlaw19_picked.calls x1 m r tk tb _ HPK.out).mono ?_
  clear xg2_0 xg2_1 xg2_2 xg2_3
  rintro e w1 ⟨rfl, hB⟩
  have hE := HE.out.below hB
  clear HE hB
  have HE := Aside0.mk hE
  clear hE
  go_upto_region 2 with fail
  have hE := HE.out.push #[.int .i64 tk, .int .i64 tb] 29
  obtain ⟨g12, hg⟩ : ∃ g, g = w1.heap.size := ⟨_, rfl⟩
  rw [← hg] at hE ⊢
  generalize w1.alloc (.cells #[.int .i64 tk, .int .i64 tb] 29) = w2 at hE ⊢
  clear hg HE
  have HE := Aside0.mk hE
  clear hE
  have xg12_0 : w2.cell? ⟨g12, 0, none⟩ = some (.int .i64 tk) := HE.out.at_ 0 0 rfl rfl
  have xg12_1 : w2.cell? ⟨g12, 1, none⟩ = some (.int .i64 tb) := HE.out.at_ 0 1 rfl rfl
  go_wp2_with fail
  refine (winnowlaw19_number.calls tk tb m k _ HNU.out).mono ?_
  clear xg12_0 xg12_1
  rintro e w3 ⟨rfl, hB⟩
  have hE := HE.out.below hB
  clear HE hB
  have HE := Aside0.mk hE
  clear hE
  have xg2_0 : w3.cell? ⟨g2, 0, none⟩ = some (.int .i64 x0) := HE.out.at_ 2 0 rfl rfl
  have xg2_1 : w3.cell? ⟨g2, 1, none⟩ = some (.int .i64 x1) := HE.out.at_ 2 1 rfl rfl
  have xg2_2 : w3.cell? ⟨g2, 2, none⟩ = some (.int .i64 x2) := HE.out.at_ 2 2 rfl rfl
  have xg2_3 : w3.cell? ⟨g2, 3, none⟩ = some (.int .i64 x3) := HE.out.at_ 2 3 rfl rfl
  go_wp2_with fail
  refine (winnowlaw19_few.calls x0 0 3 1 _ HOP.out).mono ?_
  clear xg2_0 xg2_1 xg2_2 xg2_3
  rintro e w4 ⟨rfl, hB⟩
  have hE := HE.out.below hB.below
  clear HE hB
  have HE := Aside0.mk hE
  clear hE
  have xg1_0 : w4.cell? ⟨g1, 0, none⟩ = some (.int .i64 t) := HE.out.at_ 3 0 rfl rfl
  have xg1_1 : w4.cell? ⟨g1, 1, none⟩ = some (.slice A0 l0.length p0) := HE.out.at_ 3 1 rfl rfl
  have xg1_2 : w4.cell? ⟨g1, 2, none⟩ = some (.slice A1 l1.length p1) := HE.out.at_ 3 2 rfl rfl
  have xg1_3 : w4.cell? ⟨g1, 3, none⟩ = some (.bool fl) := HE.out.at_ 3 3 rfl rfl
  have xg12_0 : w4.cell? ⟨g12, 0, none⟩ = some (.int .i64 tk) := HE.out.at_ 0 0 rfl rfl
  have xg12_1 : w4.cell? ⟨g12, 1, none⟩ = some (.int .i64 tb) := HE.out.at_ 0 1 rfl rfl
  go_wp2_with fail
  refine (done_any t fl _ _ l0 _ _ l1 tk tb t r2 r3 false 0 _ (HE.out.row_ 0 rfl) (HE.out.row_ 1 rfl) HL0.out HL1.out (HE.out.tab HT.out) HB.out).mono ?_
  clear xg1_0 xg1_1 xg1_2 xg1_3 xg12_0 xg12_1
  rintro e w5 ⟨v0, v1, rfl, s0, s1, hB⟩
  have hE := HE.out.rows2 hB rfl s0 s1 3 4 (show ([3, 4, 1, 2] : List Nat).Nodup from by decide) (by decide) (by decide)
  obtain ⟨P0, q0_, rfl⟩ := Kd.R_slice s0
  obtain ⟨P1, q1_, rfl⟩ := Kd.R_slice s1
  clear hB s0 s1 HE
  have HE := Aside0.mk hE
  clear hE
  go_upto_region 11 with fail
  have hE := HE.out.push #[.int .i64 t, .slice P0 r2.length q0_, .slice P1 r3.length q1_, .bool false] 24
  obtain ⟨g18, hg⟩ : ∃ g, g = w5.heap.size := ⟨_, rfl⟩
  rw [← hg] at hE ⊢
  generalize w5.alloc (.cells #[.int .i64 t, .slice P0 r2.length q0_, .slice P1 r3.length q1_, .bool false] 24) = w6 at hE ⊢
  clear hg HE
  have HE := Aside0.mk hE
  clear hE
  go_upto_region 13 with fail
  have HSX := Aside0.mk (fun (w' : World) (z n : Bx) (h : Env w0 (⟨g18, #[.int .i64 t, .slice P0 r2.length q0_, .slice P1 r3.length q1_, .bool false], 24⟩ :: ⟨g12, #[.int .i64 tk, .int .i64 tb], 29⟩ :: z :: ⟨g2, #[.int .i64 x0, .int .i64 x1, .int .i64 x2, .int .i64 x3], 58⟩ :: ⟨g1, #[.int .i64 t, .slice A0 l0.length p0, .slice A1 l1.length p1, .bool fl], 24⟩ :: n :: B) [] w') => (show w'.cell? ⟨g18, 0, none⟩ = some (.int .i64 t) ∧ w'.cell? ⟨g18, 1, none⟩ = some (.slice P0 r2.length q0_) ∧ w'.cell? ⟨g18, 2, none⟩ = some (.slice P1 r3.length q1_) ∧ w'.cell? ⟨g18, 3, none⟩ = some (.bool false) from ⟨h.at_ 0 0 rfl rfl, h.at_ 0 1 rfl rfl, h.at_ 0 2 rfl rfl, h.at_ 0 3 rfl rfl⟩))
  have f10_0 : w6.frozen? ⟨g10, 0, none⟩ = false := HE.out.fr_ 2 0 rfl
  have z10_0 : w6.cell? ⟨g10, 0, none⟩ = some (.int .i64 0) := HE.out.at_ 2 0 rfl rfl
  have f10_1 : w6.frozen? ⟨g10, 1, none⟩ = false := HE.out.fr_ 2 1 rfl
  have z10_1 : w6.cell? ⟨g10, 1, none⟩ = some (.slice none 0 0) := HE.out.at_ 2 1 rfl rfl
  have f10_2 : w6.frozen? ⟨g10, 2, none⟩ = false := HE.out.fr_ 2 2 rfl
  have z10_2 : w6.cell? ⟨g10, 2, none⟩ = some (.slice none 0 0) := HE.out.at_ 2 2 rfl rfl
  have f10_3 : w6.frozen? ⟨g10, 3, none⟩ = false := HE.out.fr_ 2 3 rfl
  have z10_3 : w6.cell? ⟨g10, 3, none⟩ = some (.bool false) := HE.out.at_ 2 3 rfl rfl
  go_region_held3 (fun w' => w'.cell? ⟨g18, 0, none⟩ = some (.int .i64 t) ∧ w'.cell? ⟨g18, 1, none⟩ = some (.slice P0 r2.length q0_) ∧ w'.cell? ⟨g18, 2, none⟩ = some (.slice P1 r3.length q1_) ∧ w'.cell? ⟨g18, 3, none⟩ = some (.bool false)) (first
      | (with_reducible exact HSX.out _ _ _ HA.out.bare)
      | (with_reducible exact HSX.out _ _ _ HA.out.drew.bare)
      | (with_reducible exact HSX.out _ _ _ (HA.out.st2 (.int .i64 t) (.slice P0 r2.length q0_) (.slice P1 r3.length q1_) (.bool false)).bare)
      | (with_reducible exact HSX.out _ _ _ (HA.out.st2 (.int .i64 t) (.slice P0 r2.length q0_) (.slice P1 r3.length q1_) (.bool false)).drew.bare)
      | (with_reducible exact HSX.out _ _ _ HE.out.bare)
      | (with_reducible exact HSX.out _ _ _ HE.out.drew.bare)
      | (with_reducible exact HSX.out _ _ _ (HE.out.st2 (.int .i64 t) (.slice P0 r2.length q0_) (.slice P1 r3.length q1_) (.bool false)).bare)
      | (with_reducible exact HSX.out _ _ _ (HE.out.st2 (.int .i64 t) (.slice P0 r2.length q0_) (.slice P1 r3.length q1_) (.bool false)).drew.bare)) (first
      | ((go_at_call 34; (with_reducible refine (winnowlaw19_sized.calls t P0 q0_ r2 P1 q1_ r3 false m r true _ (((HE.out.drew)).row_ 0 rfl) (((HE.out.drew)).cap_ 0 rfl).2 (((HE.out.drew)).row_ 1 rfl) (((HE.out.drew)).cap_ 1 rfl).2 HSZ.out).mono ?_); rintro e w_HA ⟨rfl, hB⟩; have HA := Aside0.mk (((HE.out.drew)).below hB); clear hB; (try have f0_HA := HA.out.fr_ 2 0 rfl); (try have z0_HA := HA.out.at_ 2 0 rfl rfl); (try have f1_HA := HA.out.fr_ 2 1 rfl); (try have z1_HA := HA.out.at_ 2 1 rfl rfl); (try have f2_HA := HA.out.fr_ 2 2 rfl); (try have z2_HA := HA.out.at_ 2 2 rfl rfl); (try have f3_HA := HA.out.fr_ 2 3 rfl); (try have z3_HA := HA.out.at_ 2 3 rfl rfl)))
      | ((go_at_call 34; (with_reducible refine (winnowlaw19_sized.calls t P0 q0_ r2 P1 q1_ r3 false m r true _ (((HE.out.st2 (.int .i64 t) (.slice P0 r2.length q0_) (.slice P1 r3.length q1_) (.bool false)).drew).row_ 0 rfl) (((HE.out.st2 (.int .i64 t) (.slice P0 r2.length q0_) (.slice P1 r3.length q1_) (.bool false)).drew).cap_ 0 rfl).2 (((HE.out.st2 (.int .i64 t) (.slice P0 r2.length q0_) (.slice P1 r3.length q1_) (.bool false)).drew).row_ 1 rfl) (((HE.out.st2 (.int .i64 t) (.slice P0 r2.length q0_) (.slice P1 r3.length q1_) (.bool false)).drew).cap_ 1 rfl).2 HSZ.out).mono ?_); rintro e w_HA ⟨rfl, hB⟩; have HA := Aside0.mk (((HE.out.st2 (.int .i64 t) (.slice P0 r2.length q0_) (.slice P1 r3.length q1_) (.bool false)).drew).below hB); clear hB; (try have f0_HA := HA.out.fr_ 2 0 rfl); (try have z0_HA := HA.out.at_ 2 0 rfl rfl); (try have f1_HA := HA.out.fr_ 2 1 rfl); (try have z1_HA := HA.out.at_ 2 1 rfl rfl); (try have f2_HA := HA.out.fr_ 2 2 rfl); (try have z2_HA := HA.out.at_ 2 2 rfl rfl); (try have f3_HA := HA.out.fr_ 2 3 rfl); (try have z3_HA := HA.out.at_ 2 3 rfl rfl))))
  all_goals (go_wp2_with fail; first
    | (have hE := HA.out; refine bodyPost_ret (results_ct rfl _ _ g10 24 #[.int .i64 t, .slice P0 r2.length q0_, .slice P1 r3.length q1_, .bool false] (0, 0) _ rfl (hE.blk_ 2 rfl) Tryd.underlying24 rfl (by kernel_rfl)) rfl ?_; exact ⟨_, _, _, _, by first | simp; done | rfl, hE.sub (.cons _ (.cons _ (.cons _ (.cons _ (.cons _ (List.Sublist.refl _)))))) (List.Sublist.refl _)⟩)
    | (have hE := (HA.out.st2 (.int .i64 t) (.slice P0 r2.length q0_) (.slice P1 r3.length q1_) (.bool false)); refine bodyPost_ret (results_ct rfl _ _ g10 24 #[.int .i64 t, .slice P0 r2.length q0_, .slice P1 r3.length q1_, .bool false] (0, 0) _ rfl (hE.blk_ 2 rfl) Tryd.underlying24 rfl (by kernel_rfl)) rfl ?_; exact ⟨_, _, _, _, by first | simp; done | rfl, hE.sub (.cons _ (.cons _ (.cons _ (.cons _ (.cons _ (List.Sublist.refl _)))))) (List.Sublist.refl _)⟩))
set_option maxHeartbeats 16000000 in
set_option maxRecDepth 100000 in
theorem made_died_ok {w0 W : World} {B : List Bx} {gN : Nat} {bg ch : Nat → Bool} {s c t : Int} {A0 A1 : Option Addr} {p0 p1 : Nat} {l0 l1 : List S38} {fl : Bool} {x0 x1 x2 x3 : Int} {m r k : Nat} {tk tb : Int} (h : Env w0 (⟨gN, ncells bg ch s c, 56⟩ :: B) (⟨1, k38, 38, .slice A0 l0.length p0, l0⟩ :: ⟨2, k38, 38, .slice A1 l1.length p1, l1⟩ :: []) W) (hT : Tab w0) (hl0 : l0.length ≤ 6000000000000) (hl1 : l1.length ≤ 6000000000000)
    (hpk : winnowlaw19_picked.f x1 m r = some (tk, tb)) (hnu : winnowlaw19_number.f tk tb m = some (k : Int)) {r2 r3 : List S38} {r4 : Bool} {n : Nat} (hop : winnowlaw19_few.f x0 0 3 = some 2) (hb : diedP t l0 l1 fl tk tb = (t, r2, r3, r4, 0)) (hsz : winnowlaw19_sized.f t r2 r3 r4 m r = some true) (hat : winnowlaw19_attempt.f t l0 l1 fl tk tb = some (n : Int)) (hk : k < 16) (hn1 : 1 ≤ n) (hn2 : n ≤ 16) (hbg : bg (k * 17 + n) = true) (hch : ch (k * 17 + n) = false) (hs : 0 ≤ c ∧ c ≤ 1000000000000) :
    Calls Tryd.prog 35 #[.pointer (some ⟨gN, 0, none⟩), .agg #[.int .i64 t, .slice A0 l0.length p0, .slice A1 l1.length p1, .bool fl], .agg #[.int .i64 x0, .int .i64 x1, .int .i64 x2, .int .i64 x3], .int .i64 m, .int .i64 r] W fun e W' => ∃ (P0 P1 : Option Addr) (q0_ q1_ : Nat), e = .returned (.tuple #[.agg #[.int .i64 t, .slice P0 r2.length q0_, .slice P1 r3.length q1_, .bool r4], .bool true]) ∧ Env w0 (⟨gN, ncells bg (upd ch (k * 17 + n)) s (c + 1), 56⟩ :: B) (⟨3, k38, 38, .slice P0 r2.length q0_, r2⟩ :: ⟨4, k38, 38, .slice P1 r3.length q1_, r3⟩ :: ⟨1, k38, 38, .slice A0 l0.length p0, l0⟩ :: ⟨2, k38, 38, .slice A1 l1.length p1, l1⟩ :: []) W' := by
  have HH := Aside0.mk h
  have HPK := Aside0.mk hpk
  have HNU := Aside0.mk hnu
  have HT := Aside0.mk hT
  have HL0 := Aside0.mk hl0
  have HL1 := Aside0.mk hl1
  have HOP := Aside0.mk hop
  have HB := Aside0.mk hb
  have HSZ := Aside0.mk hsz
  have HAT := Aside0.mk hat
  have HK := Aside0.mk hk
  have HN1 := Aside0.mk hn1
  have HN2 := Aside0.mk hn2
  have HBG := Aside0.mk hbg
  have HCH := Aside0.mk hch
  have HS := Aside0.mk hs
  clear hpk hnu hT hl0 hl1 hop hb hsz hat hk hn1 hn2 hbg hch hs
  have z0 : (W.alloc (.cells #[.int .i64 t, .slice A0 l0.length p0, .slice A1 l1.length p1, .bool fl] 24)).heap.size = W.heap.size + 1 := by simp
  have z1 : ((W.alloc (.cells #[.int .i64 t, .slice A0 l0.length p0, .slice A1 l1.length p1, .bool fl] 24)).alloc (.cells #[.int .i64 x0, .int .i64 x1, .int .i64 x2, .int .i64 x3] 58)).heap.size = W.heap.size + 1 + 1 := by simp
  have hE0 := ((h.push #[.int .i64 t, .slice A0 l0.length p0, .slice A1 l1.length p1, .bool fl] 24).push #[.int .i64 x0, .int .i64 x1, .int .i64 x2, .int .i64 x3] 58).push #[.int .i64 0, .slice none 0 0, .slice none 0 0, .bool false] 24
  rw [z0, z1] at hE0
  clear z0 z1
  obtain ⟨g10, hg2⟩ : ∃ g, g = W.heap.size + 1 + 1 := ⟨_, rfl⟩
  obtain ⟨g2, hg1⟩ : ∃ g, g = W.heap.size + 1 := ⟨_, rfl⟩
  obtain ⟨g1, hg0⟩ : ∃ g, g = W.heap.size := ⟨_, rfl⟩
  rw [← hg2, ← hg1, ← hg0] at hE0
  obtain ⟨W0, hW0, hE⟩ : ∃ W0, ((W.alloc (.cells #[.int .i64 t, .slice A0 l0.length p0, .slice A1 l1.length p1, .bool fl] 24)).alloc (.cells #[.int .i64 x0, .int .i64 x1, .int .i64 x2, .int .i64 x3] 58)).alloc (.cells #[.int .i64 0, .slice none 0 0, .slice none 0 0, .bool false] 24) = W0 ∧ Env w0 _ _ W0 := ⟨_, rfl, hE0⟩
  have HG0 := Aside0.mk hg0
  have HG1 := Aside0.mk hg1
  have HG2 := Aside0.mk hg2
  have HW0 := Aside0.mk hW0
  have HE := Aside0.mk hE
  clear hE hE0 hW0 hg0 hg1 hg2
  clear h
  have hu24 := Tryd.underlying24
  have hu29 := Tryd.underlying29
  have hu56 := Tryd.underlying56
  have hu58 := Tryd.underlying58
  go_enter Tryd.func35, Tryd.ntmps35
  go_upto_region 1 with fail
  rw [← HG2.out, ← HG1.out, ← HG0.out, HW0.out]
  clear HW0 HG0 HG1 HG2
  have xg2_0 : W0.cell? ⟨g2, 0, none⟩ = some (.int .i64 x0) := HE.out.at_ 1 0 rfl rfl
  have xg2_1 : W0.cell? ⟨g2, 1, none⟩ = some (.int .i64 x1) := HE.out.at_ 1 1 rfl rfl
  have xg2_2 : W0.cell? ⟨g2, 2, none⟩ = some (.int .i64 x2) := HE.out.at_ 1 2 rfl rfl
  have xg2_3 : W0.cell? ⟨g2, 3, none⟩ = some (.int .i64 x3) := HE.out.at_ 1 3 rfl rfl
  go_wp2_with fail
  refine (winnowlaw19_picked.calls x1 m r tk tb _ HPK.out).mono ?_
  clear xg2_0 xg2_1 xg2_2 xg2_3
  rintro e w1 ⟨rfl, hB⟩
  have hE := HE.out.below hB
  clear HE hB
  have HE := Aside0.mk hE
  clear hE
  go_upto_region 2 with fail
  have hE := HE.out.push #[.int .i64 tk, .int .i64 tb] 29
  obtain ⟨g12, hg⟩ : ∃ g, g = w1.heap.size := ⟨_, rfl⟩
  rw [← hg] at hE ⊢
  generalize w1.alloc (.cells #[.int .i64 tk, .int .i64 tb] 29) = w2 at hE ⊢
  clear hg HE
  have HE := Aside0.mk hE
  clear hE
  have xg12_0 : w2.cell? ⟨g12, 0, none⟩ = some (.int .i64 tk) := HE.out.at_ 0 0 rfl rfl
  have xg12_1 : w2.cell? ⟨g12, 1, none⟩ = some (.int .i64 tb) := HE.out.at_ 0 1 rfl rfl
  go_wp2_with fail
  refine (winnowlaw19_number.calls tk tb m k _ HNU.out).mono ?_
  clear xg12_0 xg12_1
  rintro e w3 ⟨rfl, hB⟩
  have hE := HE.out.below hB
  clear HE hB
  have HE := Aside0.mk hE
  clear hE
  have xg2_0 : w3.cell? ⟨g2, 0, none⟩ = some (.int .i64 x0) := HE.out.at_ 2 0 rfl rfl
  have xg2_1 : w3.cell? ⟨g2, 1, none⟩ = some (.int .i64 x1) := HE.out.at_ 2 1 rfl rfl
  have xg2_2 : w3.cell? ⟨g2, 2, none⟩ = some (.int .i64 x2) := HE.out.at_ 2 2 rfl rfl
  have xg2_3 : w3.cell? ⟨g2, 3, none⟩ = some (.int .i64 x3) := HE.out.at_ 2 3 rfl rfl
  go_wp2_with fail
  refine (winnowlaw19_few.calls x0 0 3 2 _ HOP.out).mono ?_
  clear xg2_0 xg2_1 xg2_2 xg2_3
  rintro e w4 ⟨rfl, hB⟩
  have hE := HE.out.below hB.below
  clear HE hB
  have HE := Aside0.mk hE
  clear hE
  have xg1_0 : w4.cell? ⟨g1, 0, none⟩ = some (.int .i64 t) := HE.out.at_ 3 0 rfl rfl
  have xg1_1 : w4.cell? ⟨g1, 1, none⟩ = some (.slice A0 l0.length p0) := HE.out.at_ 3 1 rfl rfl
  have xg1_2 : w4.cell? ⟨g1, 2, none⟩ = some (.slice A1 l1.length p1) := HE.out.at_ 3 2 rfl rfl
  have xg1_3 : w4.cell? ⟨g1, 3, none⟩ = some (.bool fl) := HE.out.at_ 3 3 rfl rfl
  have xg12_0 : w4.cell? ⟨g12, 0, none⟩ = some (.int .i64 tk) := HE.out.at_ 0 0 rfl rfl
  have xg12_1 : w4.cell? ⟨g12, 1, none⟩ = some (.int .i64 tb) := HE.out.at_ 0 1 rfl rfl
  go_wp2_with fail
  refine (died_any t fl _ _ l0 _ _ l1 tk tb t r2 r3 r4 0 _ (HE.out.row_ 0 rfl) (HE.out.row_ 1 rfl) HL0.out HL1.out (HE.out.tab HT.out) HB.out).mono ?_
  clear xg1_0 xg1_1 xg1_2 xg1_3 xg12_0 xg12_1
  rintro e w5 ⟨v0, v1, rfl, s0, s1, hB⟩
  have hE := HE.out.rows2 hB rfl s0 s1 3 4 (show ([3, 4, 1, 2] : List Nat).Nodup from by decide) (by decide) (by decide)
  obtain ⟨P0, q0_, rfl⟩ := Kd.R_slice s0
  obtain ⟨P1, q1_, rfl⟩ := Kd.R_slice s1
  clear hB s0 s1 HE
  have HE := Aside0.mk hE
  clear hE
  go_upto_region 16 with fail
  have hE := HE.out.push #[.int .i64 t, .slice P0 r2.length q0_, .slice P1 r3.length q1_, .bool r4] 24
  obtain ⟨g20, hg⟩ : ∃ g, g = w5.heap.size := ⟨_, rfl⟩
  rw [← hg] at hE ⊢
  generalize w5.alloc (.cells #[.int .i64 t, .slice P0 r2.length q0_, .slice P1 r3.length q1_, .bool r4] 24) = w6 at hE ⊢
  clear hg HE
  have HE := Aside0.mk hE
  clear hE
  go_upto_region 18 with fail
  have HSX := Aside0.mk (fun (w' : World) (z n : Bx) (h : Env w0 (⟨g20, #[.int .i64 t, .slice P0 r2.length q0_, .slice P1 r3.length q1_, .bool r4], 24⟩ :: ⟨g12, #[.int .i64 tk, .int .i64 tb], 29⟩ :: z :: ⟨g2, #[.int .i64 x0, .int .i64 x1, .int .i64 x2, .int .i64 x3], 58⟩ :: ⟨g1, #[.int .i64 t, .slice A0 l0.length p0, .slice A1 l1.length p1, .bool fl], 24⟩ :: n :: B) [] w') => (show w'.cell? ⟨g20, 0, none⟩ = some (.int .i64 t) ∧ w'.cell? ⟨g20, 1, none⟩ = some (.slice P0 r2.length q0_) ∧ w'.cell? ⟨g20, 2, none⟩ = some (.slice P1 r3.length q1_) ∧ w'.cell? ⟨g20, 3, none⟩ = some (.bool r4) ∧ w'.cell? ⟨g12, 0, none⟩ = some (.int .i64 tk) ∧ w'.cell? ⟨g12, 1, none⟩ = some (.int .i64 tb) ∧ w'.cell? ⟨g1, 0, none⟩ = some (.int .i64 t) ∧ w'.cell? ⟨g1, 1, none⟩ = some (.slice A0 l0.length p0) ∧ w'.cell? ⟨g1, 2, none⟩ = some (.slice A1 l1.length p1) ∧ w'.cell? ⟨g1, 3, none⟩ = some (.bool fl) from ⟨h.at_ 0 0 rfl rfl, h.at_ 0 1 rfl rfl, h.at_ 0 2 rfl rfl, h.at_ 0 3 rfl rfl, h.at_ 1 0 rfl rfl, h.at_ 1 1 rfl rfl, h.at_ 4 0 rfl rfl, h.at_ 4 1 rfl rfl, h.at_ 4 2 rfl rfl, h.at_ 4 3 rfl rfl⟩))
  have f10_0 : w6.frozen? ⟨g10, 0, none⟩ = false := HE.out.fr_ 2 0 rfl
  have z10_0 : w6.cell? ⟨g10, 0, none⟩ = some (.int .i64 0) := HE.out.at_ 2 0 rfl rfl
  have f10_1 : w6.frozen? ⟨g10, 1, none⟩ = false := HE.out.fr_ 2 1 rfl
  have z10_1 : w6.cell? ⟨g10, 1, none⟩ = some (.slice none 0 0) := HE.out.at_ 2 1 rfl rfl
  have f10_2 : w6.frozen? ⟨g10, 2, none⟩ = false := HE.out.fr_ 2 2 rfl
  have z10_2 : w6.cell? ⟨g10, 2, none⟩ = some (.slice none 0 0) := HE.out.at_ 2 2 rfl rfl
  have f10_3 : w6.frozen? ⟨g10, 3, none⟩ = false := HE.out.fr_ 2 3 rfl
  have z10_3 : w6.cell? ⟨g10, 3, none⟩ = some (.bool false) := HE.out.at_ 2 3 rfl rfl
  go_region_held3 (fun w' => w'.cell? ⟨g20, 0, none⟩ = some (.int .i64 t) ∧ w'.cell? ⟨g20, 1, none⟩ = some (.slice P0 r2.length q0_) ∧ w'.cell? ⟨g20, 2, none⟩ = some (.slice P1 r3.length q1_) ∧ w'.cell? ⟨g20, 3, none⟩ = some (.bool r4) ∧ w'.cell? ⟨g12, 0, none⟩ = some (.int .i64 tk) ∧ w'.cell? ⟨g12, 1, none⟩ = some (.int .i64 tb) ∧ w'.cell? ⟨g1, 0, none⟩ = some (.int .i64 t) ∧ w'.cell? ⟨g1, 1, none⟩ = some (.slice A0 l0.length p0) ∧ w'.cell? ⟨g1, 2, none⟩ = some (.slice A1 l1.length p1) ∧ w'.cell? ⟨g1, 3, none⟩ = some (.bool fl)) (first
      | (with_reducible exact HSX.out _ _ _ HBB.out.bare)
      | (with_reducible exact HSX.out _ _ _ HBB.out.drew.bare)
      | (with_reducible exact HSX.out _ _ _ (HBB.out.st2 (.int .i64 t) (.slice P0 r2.length q0_) (.slice P1 r3.length q1_) (.bool r4)).bare)
      | (with_reducible exact HSX.out _ _ _ (HBB.out.st2 (.int .i64 t) (.slice P0 r2.length q0_) (.slice P1 r3.length q1_) (.bool r4)).drew.bare)
      | (with_reducible exact HSX.out _ _ _ HCC.out.bare)
      | (with_reducible exact HSX.out _ _ _ HCC.out.drew.bare)
      | (with_reducible exact HSX.out _ _ _ (HCC.out.st2 (.int .i64 t) (.slice P0 r2.length q0_) (.slice P1 r3.length q1_) (.bool r4)).bare)
      | (with_reducible exact HSX.out _ _ _ (HCC.out.st2 (.int .i64 t) (.slice P0 r2.length q0_) (.slice P1 r3.length q1_) (.bool r4)).drew.bare)
      | (with_reducible exact HSX.out _ _ _ HA.out.bare)
      | (with_reducible exact HSX.out _ _ _ HA.out.drew.bare)
      | (with_reducible exact HSX.out _ _ _ (HA.out.st2 (.int .i64 t) (.slice P0 r2.length q0_) (.slice P1 r3.length q1_) (.bool r4)).bare)
      | (with_reducible exact HSX.out _ _ _ (HA.out.st2 (.int .i64 t) (.slice P0 r2.length q0_) (.slice P1 r3.length q1_) (.bool r4)).drew.bare)
      | (with_reducible exact HSX.out _ _ _ HE.out.bare)
      | (with_reducible exact HSX.out _ _ _ HE.out.drew.bare)
      | (with_reducible exact HSX.out _ _ _ (HE.out.st2 (.int .i64 t) (.slice P0 r2.length q0_) (.slice P1 r3.length q1_) (.bool r4)).bare)
      | (with_reducible exact HSX.out _ _ _ (HE.out.st2 (.int .i64 t) (.slice P0 r2.length q0_) (.slice P1 r3.length q1_) (.bool r4)).drew.bare)) (first
      | ((go_at_call 34; (with_reducible refine (winnowlaw19_sized.calls t P0 q0_ r2 P1 q1_ r3 r4 m r true _ (((HE.out.drew)).row_ 0 rfl) (((HE.out.drew)).cap_ 0 rfl).2 (((HE.out.drew)).row_ 1 rfl) (((HE.out.drew)).cap_ 1 rfl).2 HSZ.out).mono ?_); rintro e w_HA ⟨rfl, hB⟩; have HA := Aside0.mk (((HE.out.drew)).below hB); clear hB; (try have f0_HA := HA.out.fr_ 2 0 rfl); (try have z0_HA := HA.out.at_ 2 0 rfl rfl); (try have f1_HA := HA.out.fr_ 2 1 rfl); (try have z1_HA := HA.out.at_ 2 1 rfl rfl); (try have f2_HA := HA.out.fr_ 2 2 rfl); (try have z2_HA := HA.out.at_ 2 2 rfl rfl); (try have f3_HA := HA.out.fr_ 2 3 rfl); (try have z3_HA := HA.out.at_ 2 3 rfl rfl)))
      | ((go_at_call 34; (with_reducible refine (winnowlaw19_sized.calls t P0 q0_ r2 P1 q1_ r3 r4 m r true _ (((HE.out.st2 (.int .i64 t) (.slice P0 r2.length q0_) (.slice P1 r3.length q1_) (.bool r4)).drew).row_ 0 rfl) (((HE.out.st2 (.int .i64 t) (.slice P0 r2.length q0_) (.slice P1 r3.length q1_) (.bool r4)).drew).cap_ 0 rfl).2 (((HE.out.st2 (.int .i64 t) (.slice P0 r2.length q0_) (.slice P1 r3.length q1_) (.bool r4)).drew).row_ 1 rfl) (((HE.out.st2 (.int .i64 t) (.slice P0 r2.length q0_) (.slice P1 r3.length q1_) (.bool r4)).drew).cap_ 1 rfl).2 HSZ.out).mono ?_); rintro e w_HA ⟨rfl, hB⟩; have HA := Aside0.mk (((HE.out.st2 (.int .i64 t) (.slice P0 r2.length q0_) (.slice P1 r3.length q1_) (.bool r4)).drew).below hB); clear hB; (try have f0_HA := HA.out.fr_ 2 0 rfl); (try have z0_HA := HA.out.at_ 2 0 rfl rfl); (try have f1_HA := HA.out.fr_ 2 1 rfl); (try have z1_HA := HA.out.at_ 2 1 rfl rfl); (try have f2_HA := HA.out.fr_ 2 2 rfl); (try have z2_HA := HA.out.at_ 2 2 rfl rfl); (try have f3_HA := HA.out.fr_ 2 3 rfl); (try have z3_HA := HA.out.at_ 2 3 rfl rfl)))
      | ((go_at_call 63; (with_reducible refine (winnowlaw19_attempt.calls t A0 p0 l0 A1 p1 l1 fl tk tb n _ ((HA.out).row_ 2 rfl) ((HA.out).cap_ 2 rfl).2 ((HA.out).row_ 3 rfl) ((HA.out).cap_ 3 rfl).2 HAT.out).mono ?_); rintro e w_HCC ⟨rfl, hB⟩; have HCC := Aside0.mk ((HA.out).below hB); clear hB; (try have f0_HCC := HCC.out.fr_ 2 0 rfl); (try have z0_HCC := HCC.out.at_ 2 0 rfl rfl); (try have f1_HCC := HCC.out.fr_ 2 1 rfl); (try have z1_HCC := HCC.out.at_ 2 1 rfl rfl); (try have f2_HCC := HCC.out.fr_ 2 2 rfl); (try have z2_HCC := HCC.out.at_ 2 2 rfl rfl); (try have f3_HCC := HCC.out.fr_ 2 3 rfl); (try have z3_HCC := HCC.out.at_ 2 3 rfl rfl)))
      | ((go_at_call 63; (with_reducible refine (winnowlaw19_attempt.calls t A0 p0 l0 A1 p1 l1 fl tk tb n _ (((HA.out.st2 (.int .i64 t) (.slice P0 r2.length q0_) (.slice P1 r3.length q1_) (.bool r4))).row_ 2 rfl) (((HA.out.st2 (.int .i64 t) (.slice P0 r2.length q0_) (.slice P1 r3.length q1_) (.bool r4))).cap_ 2 rfl).2 (((HA.out.st2 (.int .i64 t) (.slice P0 r2.length q0_) (.slice P1 r3.length q1_) (.bool r4))).row_ 3 rfl) (((HA.out.st2 (.int .i64 t) (.slice P0 r2.length q0_) (.slice P1 r3.length q1_) (.bool r4))).cap_ 3 rfl).2 HAT.out).mono ?_); rintro e w_HCC ⟨rfl, hB⟩; have HCC := Aside0.mk (((HA.out.st2 (.int .i64 t) (.slice P0 r2.length q0_) (.slice P1 r3.length q1_) (.bool r4))).below hB); clear hB; (try have f0_HCC := HCC.out.fr_ 2 0 rfl); (try have z0_HCC := HCC.out.at_ 2 0 rfl rfl); (try have f1_HCC := HCC.out.fr_ 2 1 rfl); (try have z1_HCC := HCC.out.at_ 2 1 rfl rfl); (try have f2_HCC := HCC.out.fr_ 2 2 rfl); (try have z2_HCC := HCC.out.at_ 2 2 rfl rfl); (try have f3_HCC := HCC.out.fr_ 2 3 rfl); (try have z3_HCC := HCC.out.at_ 2 3 rfl rfl)))
      | ((go_at_call 64; have hF := ((HCC.out)).bf5; (with_reducible refine (charge_env k n hF HK.out HN1.out HN2.out HBG.out HCH.out HS.out).mono ?_); clear hF; rintro e w_HB ⟨rfl, hE⟩; have HBB := Aside0.mk hE.bb5; clear hE; (try have f0_HBB := HBB.out.fr_ 2 0 rfl); (try have z0_HBB := HBB.out.at_ 2 0 rfl rfl); (try have f1_HBB := HBB.out.fr_ 2 1 rfl); (try have z1_HBB := HBB.out.at_ 2 1 rfl rfl); (try have f2_HBB := HBB.out.fr_ 2 2 rfl); (try have z2_HBB := HBB.out.at_ 2 2 rfl rfl); (try have f3_HBB := HBB.out.fr_ 2 3 rfl); (try have z3_HBB := HBB.out.at_ 2 3 rfl rfl)))
      | ((go_at_call 64; have hF := (((HCC.out.st2 (.int .i64 t) (.slice P0 r2.length q0_) (.slice P1 r3.length q1_) (.bool r4)))).bf5; (with_reducible refine (charge_env k n hF HK.out HN1.out HN2.out HBG.out HCH.out HS.out).mono ?_); clear hF; rintro e w_HB ⟨rfl, hE⟩; have HBB := Aside0.mk hE.bb5; clear hE; (try have f0_HBB := HBB.out.fr_ 2 0 rfl); (try have z0_HBB := HBB.out.at_ 2 0 rfl rfl); (try have f1_HBB := HBB.out.fr_ 2 1 rfl); (try have z1_HBB := HBB.out.at_ 2 1 rfl rfl); (try have f2_HBB := HBB.out.fr_ 2 2 rfl); (try have z2_HBB := HBB.out.at_ 2 2 rfl rfl); (try have f3_HBB := HBB.out.fr_ 2 3 rfl); (try have z3_HBB := HBB.out.at_ 2 3 rfl rfl))))
  all_goals (go_wp2_with fail; first
    | (have hE := HBB.out; refine bodyPost_ret (results_ct rfl _ _ g10 24 #[.int .i64 t, .slice P0 r2.length q0_, .slice P1 r3.length q1_, .bool r4] (0, 0) _ rfl (hE.blk_ 2 rfl) Tryd.underlying24 rfl (by kernel_rfl)) rfl ?_; exact ⟨_, _, _, _, by first | simp; done | rfl, hE.sub (.cons _ (.cons _ (.cons _ (.cons _ (.cons _ (List.Sublist.refl _)))))) (List.Sublist.refl _)⟩)
    | (have hE := (HBB.out.st2 (.int .i64 t) (.slice P0 r2.length q0_) (.slice P1 r3.length q1_) (.bool r4)); refine bodyPost_ret (results_ct rfl _ _ g10 24 #[.int .i64 t, .slice P0 r2.length q0_, .slice P1 r3.length q1_, .bool r4] (0, 0) _ rfl (hE.blk_ 2 rfl) Tryd.underlying24 rfl (by kernel_rfl)) rfl ?_; exact ⟨_, _, _, _, by first | simp; done | rfl, hE.sub (.cons _ (.cons _ (.cons _ (.cons _ (.cons _ (List.Sublist.refl _)))))) (List.Sublist.refl _)⟩))
end Go.Proofs.YtponmfnegdlppaaDoor.P

end
section
/- made: a move on a book, path by path (printed by HMade.gen.py). -/
namespace Go.Proofs.YtponmfnegdlppaaDoor.P
open Go.RowKit Go.Proofs.YtponmfnegdlppaaDoorW.PrintWords Go.Proofs.YtponmfnegdlppaaDoorW.PrintLast Go.Proofs.YtponmfnegdlppaaDoorW.PrintMore
set_option linter.unusedVariables false
set_option linter.unusedSimpArgs false

set_option maxHeartbeats 8000000 in
set_option maxRecDepth 100000 in
theorem made_blame_err {w0 W : World} {B : List Bx} {gN : Nat} {bg ch : Nat → Bool} {s c t : Int} {A0 A1 : Option Addr} {p0 p1 : Nat} {l0 l1 : List S38} {fl : Bool} {x0 x1 x2 x3 : Int} {m r k : Nat} {tk tb : Int} (h : Env w0 (⟨gN, ncells bg ch s c, 56⟩ :: B) (⟨1, k38, 38, .slice A0 l0.length p0, l0⟩ :: ⟨2, k38, 38, .slice A1 l1.length p1, l1⟩ :: []) W) (hT : Tab w0) (hl0 : l0.length ≤ 6000000000000) (hl1 : l1.length ≤ 6000000000000)
    (hpk : winnowlaw19_picked.f x1 m r = some (tk, tb)) (hnu : winnowlaw19_number.f tk tb m = some (k : Int)) {rt mt : Nat} {xa : Int} {r1 : Int} {r2 r3 : List S38} {r4 r5 : Bool} {r6 : Int} (hop : winnowlaw19_few.f x0 0 3 = some 3) (hm1 : 1 ≤ m) (hm2 : m ≤ 6) (hr1 : 1 ≤ r) (hr2 : r ≤ 6) (hmt : winnowlaw19_few.f x2 0 ((m : Int) - 1) = some (mt : Int)) (hrt : winnowlaw19_few.f x1 0 ((r : Int) - 1) = some (rt : Int)) (hxa : winnowlaw19_few.f x3 1 4 = some xa) (hb : blameP t l0 l1 fl rt mt xa = (r1, r2, r3, r4, r5, r6)) (hne : r6 ≠ 0) (h5 : r5 = false) :
    Calls Tryd.prog 35 #[.pointer (some ⟨gN, 0, none⟩), .agg #[.int .i64 t, .slice A0 l0.length p0, .slice A1 l1.length p1, .bool fl], .agg #[.int .i64 x0, .int .i64 x1, .int .i64 x2, .int .i64 x3], .int .i64 m, .int .i64 r] W fun e W' => e = .returned (.tuple #[.agg #[.int .i64 t, .slice A0 l0.length p0, .slice A1 l1.length p1, .bool fl], .bool true]) ∧ Env w0 (⟨gN, ncells bg ch s c, 56⟩ :: B) (⟨1, k38, 38, .slice A0 l0.length p0, l0⟩ :: ⟨2, k38, 38, .slice A1 l1.length p1, l1⟩ :: []) W' := by
  have HH := Aside0.mk h
  have HPK := Aside0.mk hpk
  have HNU := Aside0.mk hnu
  have HT := Aside0.mk hT
  have HL0 := Aside0.mk hl0
  have HL1 := Aside0.mk hl1
  have HOP := Aside0.mk hop
  have HM1 := Aside0.mk hm1
  have HM2 := Aside0.mk hm2
  have HR1 := Aside0.mk hr1
  have HR2 := Aside0.mk hr2
  have HMT := Aside0.mk hmt
  have HRT := Aside0.mk hrt
  have HXA := Aside0.mk hxa
  have HB := Aside0.mk hb
  have HNE := Aside0.mk hne
  have H5 := Aside0.mk h5
  clear hpk hnu hT hl0 hl1 hop hm1 hm2 hr1 hr2 hmt hrt hxa hb hne h5
  have z0 : (W.alloc (.cells #[.int .i64 t, .slice A0 l0.length p0, .slice A1 l1.length p1, .bool fl] 24)).heap.size = W.heap.size + 1 := by simp
  have z1 : ((W.alloc (.cells #[.int .i64 t, .slice A0 l0.length p0, .slice A1 l1.length p1, .bool fl] 24)).alloc (.cells #[.int .i64 x0, .int .i64 x1, .int .i64 x2, .int .i64 x3] 58)).heap.size = W.heap.size + 1 + 1 := by simp
  have hE0 := ((h.push #[.int .i64 t, .slice A0 l0.length p0, .slice A1 l1.length p1, .bool fl] 24).push #[.int .i64 x0, .int .i64 x1, .int .i64 x2, .int .i64 x3] 58).push #[.int .i64 0, .slice none 0 0, .slice none 0 0, .bool false] 24
  rw [z0, z1] at hE0
  clear z0 z1
  obtain ⟨g10, hg2⟩ : ∃ g, g = W.heap.size + 1 + 1 := ⟨_, rfl⟩
  obtain ⟨g2, hg1⟩ : ∃ g, g = W.heap.size + 1 := ⟨_, rfl⟩
  obtain ⟨g1, hg0⟩ : ∃ g, g = W.heap.size := ⟨_, rfl⟩
  rw [← hg2, ← hg1, ← hg0] at hE0
  obtain ⟨W0, hW0, hE⟩ : ∃ W0, ((W.alloc (.cells #[.int .i64 t, .slice A0 l0.length p0, .slice A1 l1.length p1, .bool fl] 24)).alloc (.cells #[.int .i64 x0, .int .i64 x1, .int .i64 x2, .int .i64 x3] 58)).alloc (.cells #[.int .i64 0, .slice none 0 0, .slice none 0 0, .bool false] 24) = W0 ∧ Env w0 _ _ W0 := ⟨_, rfl, hE0⟩
  have HG0 := Aside0.mk hg0
  have HG1 := Aside0.mk hg1
  have HG2 := Aside0.mk hg2
  have HW0 := Aside0.mk hW0
  have HE := Aside0.mk hE
  clear hE hE0 hW0 hg0 hg1 hg2
  clear h
  have hu24 := Tryd.underlying24
  have hu29 := Tryd.underlying29
  have hu56 := Tryd.underlying56
  have hu58 := Tryd.underlying58
  go_enter Tryd.func35, Tryd.ntmps35
  go_upto_region 1 with fail
  rw [← HG2.out, ← HG1.out, ← HG0.out, HW0.out]
  clear HW0 HG0 HG1 HG2
  have xg2_0 : W0.cell? ⟨g2, 0, none⟩ = some (.int .i64 x0) := HE.out.at_ 1 0 rfl rfl
  have xg2_1 : W0.cell? ⟨g2, 1, none⟩ = some (.int .i64 x1) := HE.out.at_ 1 1 rfl rfl
  have xg2_2 : W0.cell? ⟨g2, 2, none⟩ = some (.int .i64 x2) := HE.out.at_ 1 2 rfl rfl
  have xg2_3 : W0.cell? ⟨g2, 3, none⟩ = some (.int .i64 x3) := HE.out.at_ 1 3 rfl rfl
  go_wp2_with fail
  refine (winnowlaw19_picked.calls x1 m r tk tb _ HPK.out).mono ?_
  clear xg2_0 xg2_1 xg2_2 xg2_3
  rintro e w1 ⟨rfl, hB⟩
  have hE := HE.out.below hB
  clear HE hB
  have HE := Aside0.mk hE
  clear hE
  go_upto_region 2 with fail
  have hE := HE.out.push #[.int .i64 tk, .int .i64 tb] 29
  obtain ⟨g12, hg⟩ : ∃ g, g = w1.heap.size := ⟨_, rfl⟩
  rw [← hg] at hE ⊢
  generalize w1.alloc (.cells #[.int .i64 tk, .int .i64 tb] 29) = w2 at hE ⊢
  clear hg HE
  have HE := Aside0.mk hE
  clear hE
  have xg12_0 : w2.cell? ⟨g12, 0, none⟩ = some (.int .i64 tk) := HE.out.at_ 0 0 rfl rfl
  have xg12_1 : w2.cell? ⟨g12, 1, none⟩ = some (.int .i64 tb) := HE.out.at_ 0 1 rfl rfl
  go_wp2_with fail
  refine (winnowlaw19_number.calls tk tb m k _ HNU.out).mono ?_
  clear xg12_0 xg12_1
  rintro e w3 ⟨rfl, hB⟩
  have hE := HE.out.below hB
  clear HE hB
  have HE := Aside0.mk hE
  clear hE
  have xg2_0 : w3.cell? ⟨g2, 0, none⟩ = some (.int .i64 x0) := HE.out.at_ 2 0 rfl rfl
  have xg2_1 : w3.cell? ⟨g2, 1, none⟩ = some (.int .i64 x1) := HE.out.at_ 2 1 rfl rfl
  have xg2_2 : w3.cell? ⟨g2, 2, none⟩ = some (.int .i64 x2) := HE.out.at_ 2 2 rfl rfl
  have xg2_3 : w3.cell? ⟨g2, 3, none⟩ = some (.int .i64 x3) := HE.out.at_ 2 3 rfl rfl
  go_wp2_with fail
  refine (winnowlaw19_few.calls x0 0 3 3 _ HOP.out).mono ?_
  clear xg2_0 xg2_1 xg2_2 xg2_3
  rintro e w4 ⟨rfl, hB⟩
  have hE := HE.out.below hB.below
  clear HE hB
  have HE := Aside0.mk hE
  clear hE
  have hm_ : ((m : Int) == 0) = false := by have := HM1.out; simp; omega
  have hwm_ : IntKind.i64.wrap ((m : Int) - 1) = (m : Int) - 1 := by rw [IntKind.wrap_i64]; have := HM1.out; have := HM2.out; omega
  have xg2_0 : w4.cell? ⟨g2, 0, none⟩ = some (.int .i64 x0) := HE.out.at_ 2 0 rfl rfl
  have xg2_1 : w4.cell? ⟨g2, 1, none⟩ = some (.int .i64 x1) := HE.out.at_ 2 1 rfl rfl
  have xg2_2 : w4.cell? ⟨g2, 2, none⟩ = some (.int .i64 x2) := HE.out.at_ 2 2 rfl rfl
  have xg2_3 : w4.cell? ⟨g2, 3, none⟩ = some (.int .i64 x3) := HE.out.at_ 2 3 rfl rfl
  go_wp2_with fail
  refine (winnowlaw19_few.calls x2 0 ((m : Int) - 1) (mt : Int) _ HMT.out).mono ?_
  clear xg2_0 xg2_1 xg2_2 xg2_3
  rintro e w5 ⟨rfl, hB⟩
  have hE := HE.out.below hB.below
  clear HE hB
  have HE := Aside0.mk hE
  clear hE
  have xg2_0 : w5.cell? ⟨g2, 0, none⟩ = some (.int .i64 x0) := HE.out.at_ 2 0 rfl rfl
  have xg2_1 : w5.cell? ⟨g2, 1, none⟩ = some (.int .i64 x1) := HE.out.at_ 2 1 rfl rfl
  have xg2_2 : w5.cell? ⟨g2, 2, none⟩ = some (.int .i64 x2) := HE.out.at_ 2 2 rfl rfl
  have xg2_3 : w5.cell? ⟨g2, 3, none⟩ = some (.int .i64 x3) := HE.out.at_ 2 3 rfl rfl
  go_wp2_with fail
  refine (winnowlaw19_few.calls x3 1 4 xa _ HXA.out).mono ?_
  clear xg2_0 xg2_1 xg2_2 xg2_3
  rintro e w6 ⟨rfl, hB⟩
  have hE := HE.out.below hB.below
  clear HE hB
  have HE := Aside0.mk hE
  clear hE
  clear hwm_ hm_
  go_upto_region 23 with fail
  have hwr_ : IntKind.i64.wrap ((r : Int) - 1) = (r : Int) - 1 := by rw [IntKind.wrap_i64]; have := HR1.out; have := HR2.out; omega
  go_cut [24, 25, 26] (fun s0 s1 s2 wx => ∃ (g24 : Nat) (P0 : Option Addr) (q0_ : Nat) (P1 : Option Addr) (q1_ : Nat), s0 = .pointer (some ⟨g24, 0, none⟩) ∧ s1 = .bool r5 ∧ s2 = .int .i64 r6 ∧ Aside0 (Env w0 (⟨g24, #[.int .i64 r1, .slice P0 r2.length q0_, .slice P1 r3.length q1_, .bool r4], 24⟩ :: ⟨g12, #[.int .i64 tk, .int .i64 tb], 29⟩ :: ⟨g10, #[.int .i64 0, .slice none 0 0, .slice none 0 0, .bool false], 24⟩ :: ⟨g2, #[.int .i64 x0, .int .i64 x1, .int .i64 x2, .int .i64 x3], 58⟩ :: ⟨g1, #[.int .i64 t, .slice A0 l0.length p0, .slice A1 l1.length p1, .bool fl], 24⟩ :: ⟨gN, ncells bg ch s c, 56⟩ :: B) (⟨3, k38, 38, .slice P0 r2.length q0_, r2⟩ :: ⟨4, k38, 38, .slice P1 r3.length q1_, r3⟩ :: ⟨1, k38, 38, .slice A0 l0.length p0, l0⟩ :: ⟨2, k38, 38, .slice A1 l1.length p1, l1⟩ :: []) wx))
  case first =>
    have HSX := Aside0.mk (fun (w' : World) (h : Env w0 (⟨g12, #[.int .i64 tk, .int .i64 tb], 29⟩ :: ⟨g10, #[.int .i64 0, .slice none 0 0, .slice none 0 0, .bool false], 24⟩ :: ⟨g2, #[.int .i64 x0, .int .i64 x1, .int .i64 x2, .int .i64 x3], 58⟩ :: ⟨g1, #[.int .i64 t, .slice A0 l0.length p0, .slice A1 l1.length p1, .bool fl], 24⟩ :: ⟨gN, ncells bg ch s c, 56⟩ :: B) [] w') => (show w'.cell? ⟨g2, 0, none⟩ = some (.int .i64 x0) ∧ w'.cell? ⟨g2, 1, none⟩ = some (.int .i64 x1) ∧ w'.cell? ⟨g2, 2, none⟩ = some (.int .i64 x2) ∧ w'.cell? ⟨g2, 3, none⟩ = some (.int .i64 x3) ∧ w'.cell? ⟨g1, 0, none⟩ = some (.int .i64 t) ∧ w'.cell? ⟨g1, 1, none⟩ = some (.slice A0 l0.length p0) ∧ w'.cell? ⟨g1, 2, none⟩ = some (.slice A1 l1.length p1) ∧ w'.cell? ⟨g1, 3, none⟩ = some (.bool fl) from ⟨h.at_ 2 0 rfl rfl, h.at_ 2 1 rfl rfl, h.at_ 2 2 rfl rfl, h.at_ 2 3 rfl rfl, h.at_ 3 0 rfl rfl, h.at_ 3 1 rfl rfl, h.at_ 3 2 rfl rfl, h.at_ 3 3 rfl rfl⟩))
    go_region_held3 (fun w' => w'.cell? ⟨g2, 0, none⟩ = some (.int .i64 x0) ∧ w'.cell? ⟨g2, 1, none⟩ = some (.int .i64 x1) ∧ w'.cell? ⟨g2, 2, none⟩ = some (.int .i64 x2) ∧ w'.cell? ⟨g2, 3, none⟩ = some (.int .i64 x3) ∧ w'.cell? ⟨g1, 0, none⟩ = some (.int .i64 t) ∧ w'.cell? ⟨g1, 1, none⟩ = some (.slice A0 l0.length p0) ∧ w'.cell? ⟨g1, 2, none⟩ = some (.slice A1 l1.length p1) ∧ w'.cell? ⟨g1, 3, none⟩ = some (.bool fl)) (first
        | exact HSX.out _ (HBL.out.push #[.int .i64 r1, .slice P0 r2.length q0_, .slice P1 r3.length q1_, .bool r4] 24).bare1
        | exact HSX.out _ HBL.out.bare
        | exact HSX.out _ HBL.out.bare1
        | exact HSX.out _ (HBL.out.push #[.int .i64 0, .slice none 0 0, .slice none 0 0, .bool false] 24).bare1
        | exact HSX.out _ HBL.out.drew.bare
        | exact HSX.out _ HBL.out.drew.bare1
        | exact HSX.out _ (HBL.out.push #[.int .i64 0, .slice none 0 0, .slice none 0 0, .bool false] 24).drew.bare1
        | exact HSX.out _ HF.out.bare
        | exact HSX.out _ HF.out.bare1
        | exact HSX.out _ (HF.out.push #[.int .i64 0, .slice none 0 0, .slice none 0 0, .bool false] 24).bare1
        | exact HSX.out _ HF.out.drew.bare
        | exact HSX.out _ HF.out.drew.bare1
        | exact HSX.out _ (HF.out.push #[.int .i64 0, .slice none 0 0, .slice none 0 0, .bool false] 24).drew.bare1
        | exact HSX.out _ HE.out.bare
        | exact HSX.out _ HE.out.bare1
        | exact HSX.out _ (HE.out.push #[.int .i64 0, .slice none 0 0, .slice none 0 0, .bool false] 24).bare1
        | exact HSX.out _ HE.out.drew.bare
        | exact HSX.out _ HE.out.drew.bare1
        | exact HSX.out _ (HE.out.push #[.int .i64 0, .slice none 0 0, .slice none 0 0, .bool false] 24).drew.bare1
        | exact HSX.out _ (HBL.out.book4 (.int .i64 r1) (.slice P0 r2.length q0_) (.slice P1 r3.length q1_) (.bool r4)).bare1
        | exact HSX.out _ ((HBL.out.push #[.int .i64 0, .slice none 0 0, .slice none 0 0, .bool false] 24).book4 (.int .i64 r1) (.slice P0 r2.length q0_) (.slice P1 r3.length q1_) (.bool r4)).bare1) (first
        | ((go_at_call 32; (with_reducible refine (winnowlaw19_few.calls x1 0 ((r : Int) - 1) (rt : Int) _ HRT.out).mono ?_); rintro e w_HF ⟨rfl, hB⟩; have HF := Aside0.mk ((HE.out.drew).below hB.below); clear hB))
        | ((go_at_call 32; (with_reducible refine (winnowlaw19_few.calls x1 0 ((r : Int) - 1) (rt : Int) _ HRT.out).mono ?_); rintro e w_HF ⟨rfl, hB⟩; have HF := Aside0.mk (((HE.out.push #[.int .i64 0, .slice none 0 0, .slice none 0 0, .bool false] 24).drew).below hB.below); clear hB))
        | ((go_at_call 30; (with_reducible refine (blame_any t fl _ _ l0 _ _ l1 rt mt xa r1 r2 r3 r4 r5 r6 _ ((HF.out).row_ 0 rfl) ((HF.out).row_ 1 rfl) HL0.out HL1.out ((HF.out).tab HT.out) HB.out).mono ?_); rintro e w_HBL ⟨v0, v1, rfl, s0, s1, hB⟩; have hE := (HF.out).rows2 hB rfl s0 s1 3 4 (show ([3, 4, 1, 2] : List Nat).Nodup from by decide) (by decide) (by decide); obtain ⟨P0, q0_, rfl⟩ := Kd.R_slice s0; obtain ⟨P1, q1_, rfl⟩ := Kd.R_slice s1; have HBL := Aside0.mk hE; clear hB s0 s1 hE; (try have y0_ : World.cell? _ ⟨_, 0, none⟩ = some (.int .i64 0) := HBL.out.at_ 0 0 rfl rfl); (try have y1_ : World.cell? _ ⟨_, 1, none⟩ = some (.slice none 0 0) := HBL.out.at_ 0 1 rfl rfl); (try have y2_ : World.cell? _ ⟨_, 2, none⟩ = some (.slice none 0 0) := HBL.out.at_ 0 2 rfl rfl); (try have y3_ : World.cell? _ ⟨_, 3, none⟩ = some (.bool false) := HBL.out.at_ 0 3 rfl rfl); (try have f0_ := HBL.out.fr_ 0 0 (cs := #[.int .i64 0, .slice none 0 0, .slice none 0 0, .bool false]) rfl); (try have f1_ := HBL.out.fr_ 0 1 (cs := #[.int .i64 0, .slice none 0 0, .slice none 0 0, .bool false]) rfl); (try have f2_ := HBL.out.fr_ 0 2 (cs := #[.int .i64 0, .slice none 0 0, .slice none 0 0, .bool false]) rfl); (try have f3_ := HBL.out.fr_ 0 3 (cs := #[.int .i64 0, .slice none 0 0, .slice none 0 0, .bool false]) rfl)))
        | ((go_at_call 30; (with_reducible refine (blame_any t fl _ _ l0 _ _ l1 rt mt xa r1 r2 r3 r4 r5 r6 _ (((HF.out.push #[.int .i64 0, .slice none 0 0, .slice none 0 0, .bool false] 24)).row_ 0 rfl) (((HF.out.push #[.int .i64 0, .slice none 0 0, .slice none 0 0, .bool false] 24)).row_ 1 rfl) HL0.out HL1.out (((HF.out.push #[.int .i64 0, .slice none 0 0, .slice none 0 0, .bool false] 24)).tab HT.out) HB.out).mono ?_); rintro e w_HBL ⟨v0, v1, rfl, s0, s1, hB⟩; have hE := ((HF.out.push #[.int .i64 0, .slice none 0 0, .slice none 0 0, .bool false] 24)).rows2 hB rfl s0 s1 3 4 (show ([3, 4, 1, 2] : List Nat).Nodup from by decide) (by decide) (by decide); obtain ⟨P0, q0_, rfl⟩ := Kd.R_slice s0; obtain ⟨P1, q1_, rfl⟩ := Kd.R_slice s1; have HBL := Aside0.mk hE; clear hB s0 s1 hE; (try have y0_ : World.cell? _ ⟨_, 0, none⟩ = some (.int .i64 0) := HBL.out.at_ 0 0 rfl rfl); (try have y1_ : World.cell? _ ⟨_, 1, none⟩ = some (.slice none 0 0) := HBL.out.at_ 0 1 rfl rfl); (try have y2_ : World.cell? _ ⟨_, 2, none⟩ = some (.slice none 0 0) := HBL.out.at_ 0 2 rfl rfl); (try have y3_ : World.cell? _ ⟨_, 3, none⟩ = some (.bool false) := HBL.out.at_ 0 3 rfl rfl); (try have f0_ := HBL.out.fr_ 0 0 (cs := #[.int .i64 0, .slice none 0 0, .slice none 0 0, .bool false]) rfl); (try have f1_ := HBL.out.fr_ 0 1 (cs := #[.int .i64 0, .slice none 0 0, .slice none 0 0, .bool false]) rfl); (try have f2_ := HBL.out.fr_ 0 2 (cs := #[.int .i64 0, .slice none 0 0, .slice none 0 0, .bool false]) rfl); (try have f3_ := HBL.out.fr_ 0 3 (cs := #[.int .i64 0, .slice none 0 0, .slice none 0 0, .bool false]) rfl))))
    all_goals (go_wp2_with fail; go_meet; first | exact ⟨_, _, _, _, _, rfl, rfl, rfl, ⟨HBL.out.book4 (.int .i64 r1) (.slice P0 r2.length q0_) (.slice P1 r3.length q1_) (.bool r4)⟩⟩ | exact ⟨_, _, _, _, _, rfl, rfl, rfl, ⟨HBL.out.push #[.int .i64 r1, .slice P0 r2.length q0_, .slice P1 r3.length q1_, .bool r4] 24⟩⟩ | exact ⟨_, _, _, _, _, rfl, rfl, rfl, ⟨(HBL.out.push #[.int .i64 0, .slice none 0 0, .slice none 0 0, .bool false] 24).book4 (.int .i64 r1) (.slice P0 r2.length q0_) (.slice P1 r3.length q1_) (.bool r4)⟩⟩)
  case rest =>
    clear HE
    obtain ⟨g24, P0, q0_, P1, q1_, rfl, rfl, rfl, HE⟩ := hcut
    clear hwr_
    have hE := HE.out.lose1.lose1
    clear HE
    have HE := Aside0.mk hE
    clear hE
    have ne_ : (r6 == 0) = false := by simpa using HNE.out
    have ne2_ : (r6 != 0) = true := by simpa using HNE.out
    obtain rfl := H5.out
    have xg1_0 : wc.cell? ⟨g1, 0, none⟩ = some (.int .i64 t) := HE.out.at_ 4 0 rfl rfl
    have xg1_1 : wc.cell? ⟨g1, 1, none⟩ = some (.slice A0 l0.length p0) := HE.out.at_ 4 1 rfl rfl
    have xg1_2 : wc.cell? ⟨g1, 2, none⟩ = some (.slice A1 l1.length p1) := HE.out.at_ 4 2 rfl rfl
    have xg1_3 : wc.cell? ⟨g1, 3, none⟩ = some (.bool fl) := HE.out.at_ 4 3 rfl rfl
    have xg10_0 : wc.cell? ⟨g10, 0, none⟩ = some (.int .i64 0) := HE.out.at_ 2 0 rfl rfl
    have xg10_1 : wc.cell? ⟨g10, 1, none⟩ = some (.slice none 0 0) := HE.out.at_ 2 1 rfl rfl
    have xg10_2 : wc.cell? ⟨g10, 2, none⟩ = some (.slice none 0 0) := HE.out.at_ 2 2 rfl rfl
    have xg10_3 : wc.cell? ⟨g10, 3, none⟩ = some (.bool false) := HE.out.at_ 2 3 rfl rfl
    have fg10_0 : wc.frozen? ⟨g10, 0, none⟩ = false := HE.out.fr_ 2 0 rfl
    have fg10_1 : wc.frozen? ⟨g10, 1, none⟩ = false := HE.out.fr_ 2 1 rfl
    have fg10_2 : wc.frozen? ⟨g10, 2, none⟩ = false := HE.out.fr_ 2 2 rfl
    have fg10_3 : wc.frozen? ⟨g10, 3, none⟩ = false := HE.out.fr_ 2 3 rfl
    go_wp2_with fail
    have hE := (HE.out.sub (.cons _ (.cons _ (.cons_cons _ (.cons _ (.cons _ (List.Sublist.refl _)))))) (List.Sublist.refl _)).book4 (.int .i64 t) (.slice A0 l0.length p0) (.slice A1 l1.length p1) (.bool fl)
    clear xg1_0 xg1_1 xg1_2 xg1_3 xg10_0 xg10_1 xg10_2 xg10_3 fg10_0 fg10_1 fg10_2 fg10_3
    clear HE
    refine bodyPost_ret (results_ct rfl _ _ g10 24 #[.int .i64 t, .slice A0 l0.length p0, .slice A1 l1.length p1, .bool fl] (0, 0) _ rfl (hE.blk_ 0 rfl) Tryd.underlying24 rfl (by kernel_rfl)) rfl ?_
    exact ⟨by first | rfl | simp, hE.sub (.cons _ (List.Sublist.refl _)) (List.Sublist.refl _)⟩
set_option maxHeartbeats 16000000 in
set_option maxRecDepth 100000 in
theorem made_blame_free {w0 W : World} {B : List Bx} {gN : Nat} {bg ch : Nat → Bool} {s c t : Int} {A0 A1 : Option Addr} {p0 p1 : Nat} {l0 l1 : List S38} {fl : Bool} {x0 x1 x2 x3 : Int} {m r k : Nat} {tk tb : Int} (h : Env w0 (⟨gN, ncells bg ch s c, 56⟩ :: B) (⟨1, k38, 38, .slice A0 l0.length p0, l0⟩ :: ⟨2, k38, 38, .slice A1 l1.length p1, l1⟩ :: []) W) (hT : Tab w0) (hl0 : l0.length ≤ 6000000000000) (hl1 : l1.length ≤ 6000000000000)
    (hpk : winnowlaw19_picked.f x1 m r = some (tk, tb)) (hnu : winnowlaw19_number.f tk tb m = some (k : Int)) {rt mt n : Nat} {r2 r3 : List S38} {r4 : Bool} (hop : winnowlaw19_few.f x0 0 3 = some 3) (hm1 : 1 ≤ m) (hm2 : m ≤ 6) (hr1 : 1 ≤ r) (hr2 : r ≤ 6) (hmt : winnowlaw19_few.f x2 0 ((m : Int) - 1) = some (mt : Int)) (hrt : winnowlaw19_few.f x1 0 ((r : Int) - 1) = some (rt : Int)) (hxa : winnowlaw19_few.f x3 1 4 = some (n : Int)) (hb : blameP t l0 l1 fl rt mt n = (t, r2, r3, r4, false, 0)) (hsz : winnowlaw19_sized.f t r2 r3 r4 m r = some true) :
    Calls Tryd.prog 35 #[.pointer (some ⟨gN, 0, none⟩), .agg #[.int .i64 t, .slice A0 l0.length p0, .slice A1 l1.length p1, .bool fl], .agg #[.int .i64 x0, .int .i64 x1, .int .i64 x2, .int .i64 x3], .int .i64 m, .int .i64 r] W fun e W' => ∃ (P0 P1 : Option Addr) (q0_ q1_ : Nat), e = .returned (.tuple #[.agg #[.int .i64 t, .slice P0 r2.length q0_, .slice P1 r3.length q1_, .bool r4], .bool true]) ∧ Env w0 (⟨gN, ncells bg ch s c, 56⟩ :: B) (⟨3, k38, 38, .slice P0 r2.length q0_, r2⟩ :: ⟨4, k38, 38, .slice P1 r3.length q1_, r3⟩ :: ⟨1, k38, 38, .slice A0 l0.length p0, l0⟩ :: ⟨2, k38, 38, .slice A1 l1.length p1, l1⟩ :: []) W' := by
  have HH := Aside0.mk h
  have HPK := Aside0.mk hpk
  have HNU := Aside0.mk hnu
  have HT := Aside0.mk hT
  have HL0 := Aside0.mk hl0
  have HL1 := Aside0.mk hl1
  have HOP := Aside0.mk hop
  have HM1 := Aside0.mk hm1
  have HM2 := Aside0.mk hm2
  have HR1 := Aside0.mk hr1
  have HR2 := Aside0.mk hr2
  have HMT := Aside0.mk hmt
  have HRT := Aside0.mk hrt
  have HXA := Aside0.mk hxa
  have HB := Aside0.mk hb
  have HSZ := Aside0.mk hsz
  clear hpk hnu hT hl0 hl1 hop hm1 hm2 hr1 hr2 hmt hrt hxa hb hsz
  have z0 : (W.alloc (.cells #[.int .i64 t, .slice A0 l0.length p0, .slice A1 l1.length p1, .bool fl] 24)).heap.size = W.heap.size + 1 := by simp
  have z1 : ((W.alloc (.cells #[.int .i64 t, .slice A0 l0.length p0, .slice A1 l1.length p1, .bool fl] 24)).alloc (.cells #[.int .i64 x0, .int .i64 x1, .int .i64 x2, .int .i64 x3] 58)).heap.size = W.heap.size + 1 + 1 := by simp
  have hE0 := ((h.push #[.int .i64 t, .slice A0 l0.length p0, .slice A1 l1.length p1, .bool fl] 24).push #[.int .i64 x0, .int .i64 x1, .int .i64 x2, .int .i64 x3] 58).push #[.int .i64 0, .slice none 0 0, .slice none 0 0, .bool false] 24
  rw [z0, z1] at hE0
  clear z0 z1
  obtain ⟨g10, hg2⟩ : ∃ g, g = W.heap.size + 1 + 1 := ⟨_, rfl⟩
  obtain ⟨g2, hg1⟩ : ∃ g, g = W.heap.size + 1 := ⟨_, rfl⟩
  obtain ⟨g1, hg0⟩ : ∃ g, g = W.heap.size := ⟨_, rfl⟩
  rw [← hg2, ← hg1, ← hg0] at hE0
  obtain ⟨W0, hW0, hE⟩ : ∃ W0, ((W.alloc (.cells #[.int .i64 t, .slice A0 l0.length p0, .slice A1 l1.length p1, .bool fl] 24)).alloc (.cells #[.int .i64 x0, .int .i64 x1, .int .i64 x2, .int .i64 x3] 58)).alloc (.cells #[.int .i64 0, .slice none 0 0, .slice none 0 0, .bool false] 24) = W0 ∧ Env w0 _ _ W0 := ⟨_, rfl, hE0⟩
  have HG0 := Aside0.mk hg0
  have HG1 := Aside0.mk hg1
  have HG2 := Aside0.mk hg2
  have HW0 := Aside0.mk hW0
  have HE := Aside0.mk hE
  clear hE hE0 hW0 hg0 hg1 hg2
  clear h
  have hu24 := Tryd.underlying24
  have hu29 := Tryd.underlying29
  have hu56 := Tryd.underlying56
  have hu58 := Tryd.underlying58
  go_enter Tryd.func35, Tryd.ntmps35
  go_upto_region 1 with fail
  rw [← HG2.out, ← HG1.out, ← HG0.out, HW0.out]
  clear HW0 HG0 HG1 HG2
  have xg2_0 : W0.cell? ⟨g2, 0, none⟩ = some (.int .i64 x0) := HE.out.at_ 1 0 rfl rfl
  have xg2_1 : W0.cell? ⟨g2, 1, none⟩ = some (.int .i64 x1) := HE.out.at_ 1 1 rfl rfl
  have xg2_2 : W0.cell? ⟨g2, 2, none⟩ = some (.int .i64 x2) := HE.out.at_ 1 2 rfl rfl
  have xg2_3 : W0.cell? ⟨g2, 3, none⟩ = some (.int .i64 x3) := HE.out.at_ 1 3 rfl rfl
  go_wp2_with fail
  refine (winnowlaw19_picked.calls x1 m r tk tb _ HPK.out).mono ?_
  clear xg2_0 xg2_1 xg2_2 xg2_3
  rintro e w1 ⟨rfl, hB⟩
  have hE := HE.out.below hB
  clear HE hB
  have HE := Aside0.mk hE
  clear hE
  go_upto_region 2 with fail
  have hE := HE.out.push #[.int .i64 tk, .int .i64 tb] 29
  obtain ⟨g12, hg⟩ : ∃ g, g = w1.heap.size := ⟨_, rfl⟩
  rw [← hg] at hE ⊢
  generalize w1.alloc (.cells #[.int .i64 tk, .int .i64 tb] 29) = w2 at hE ⊢
  clear hg HE
  have HE := Aside0.mk hE
  clear hE
  have xg12_0 : w2.cell? ⟨g12, 0, none⟩ = some (.int .i64 tk) := HE.out.at_ 0 0 rfl rfl
  have xg12_1 : w2.cell? ⟨g12, 1, none⟩ = some (.int .i64 tb) := HE.out.at_ 0 1 rfl rfl
  go_wp2_with fail
  refine (winnowlaw19_number.calls tk tb m k _ HNU.out).mono ?_
  clear xg12_0 xg12_1
  rintro e w3 ⟨rfl, hB⟩
  have hE := HE.out.below hB
  clear HE hB
  have HE := Aside0.mk hE
  clear hE
  have xg2_0 : w3.cell? ⟨g2, 0, none⟩ = some (.int .i64 x0) := HE.out.at_ 2 0 rfl rfl
  have xg2_1 : w3.cell? ⟨g2, 1, none⟩ = some (.int .i64 x1) := HE.out.at_ 2 1 rfl rfl
  have xg2_2 : w3.cell? ⟨g2, 2, none⟩ = some (.int .i64 x2) := HE.out.at_ 2 2 rfl rfl
  have xg2_3 : w3.cell? ⟨g2, 3, none⟩ = some (.int .i64 x3) := HE.out.at_ 2 3 rfl rfl
  go_wp2_with fail
  refine (winnowlaw19_few.calls x0 0 3 3 _ HOP.out).mono ?_
  clear xg2_0 xg2_1 xg2_2 xg2_3
  rintro e w4 ⟨rfl, hB⟩
  have hE := HE.out.below hB.below
  clear HE hB
  have HE := Aside0.mk hE
  clear hE
  have hm_ : ((m : Int) == 0) = false := by have := HM1.out; simp; omega
  have hwm_ : IntKind.i64.wrap ((m : Int) - 1) = (m : Int) - 1 := by rw [IntKind.wrap_i64]; have := HM1.out; have := HM2.out; omega
  have xg2_0 : w4.cell? ⟨g2, 0, none⟩ = some (.int .i64 x0) := HE.out.at_ 2 0 rfl rfl
  have xg2_1 : w4.cell? ⟨g2, 1, none⟩ = some (.int .i64 x1) := HE.out.at_ 2 1 rfl rfl
  have xg2_2 : w4.cell? ⟨g2, 2, none⟩ = some (.int .i64 x2) := HE.out.at_ 2 2 rfl rfl
  have xg2_3 : w4.cell? ⟨g2, 3, none⟩ = some (.int .i64 x3) := HE.out.at_ 2 3 rfl rfl
  go_wp2_with fail
  refine (winnowlaw19_few.calls x2 0 ((m : Int) - 1) (mt : Int) _ HMT.out).mono ?_
  clear xg2_0 xg2_1 xg2_2 xg2_3
  rintro e w5 ⟨rfl, hB⟩
  have hE := HE.out.below hB.below
  clear HE hB
  have HE := Aside0.mk hE
  clear hE
  have xg2_0 : w5.cell? ⟨g2, 0, none⟩ = some (.int .i64 x0) := HE.out.at_ 2 0 rfl rfl
  have xg2_1 : w5.cell? ⟨g2, 1, none⟩ = some (.int .i64 x1) := HE.out.at_ 2 1 rfl rfl
  have xg2_2 : w5.cell? ⟨g2, 2, none⟩ = some (.int .i64 x2) := HE.out.at_ 2 2 rfl rfl
  have xg2_3 : w5.cell? ⟨g2, 3, none⟩ = some (.int .i64 x3) := HE.out.at_ 2 3 rfl rfl
  go_wp2_with fail
  refine (winnowlaw19_few.calls x3 1 4 n _ HXA.out).mono ?_
  clear xg2_0 xg2_1 xg2_2 xg2_3
  rintro e w6 ⟨rfl, hB⟩
  have hE := HE.out.below hB.below
  clear HE hB
  have HE := Aside0.mk hE
  clear hE
  clear hwm_ hm_
  go_upto_region 23 with fail
  have hwr_ : IntKind.i64.wrap ((r : Int) - 1) = (r : Int) - 1 := by rw [IntKind.wrap_i64]; have := HR1.out; have := HR2.out; omega
  go_cut [24, 25, 26] (fun s0 s1 s2 wx => ∃ (g24 : Nat) (P0 : Option Addr) (q0_ : Nat) (P1 : Option Addr) (q1_ : Nat), s0 = .pointer (some ⟨g24, 0, none⟩) ∧ s1 = .bool false ∧ s2 = .int .i64 0 ∧ Aside0 (Env w0 (⟨g24, #[.int .i64 t, .slice P0 r2.length q0_, .slice P1 r3.length q1_, .bool r4], 24⟩ :: ⟨g12, #[.int .i64 tk, .int .i64 tb], 29⟩ :: ⟨g10, #[.int .i64 0, .slice none 0 0, .slice none 0 0, .bool false], 24⟩ :: ⟨g2, #[.int .i64 x0, .int .i64 x1, .int .i64 x2, .int .i64 x3], 58⟩ :: ⟨g1, #[.int .i64 t, .slice A0 l0.length p0, .slice A1 l1.length p1, .bool fl], 24⟩ :: ⟨gN, ncells bg ch s c, 56⟩ :: B) (⟨3, k38, 38, .slice P0 r2.length q0_, r2⟩ :: ⟨4, k38, 38, .slice P1 r3.length q1_, r3⟩ :: ⟨1, k38, 38, .slice A0 l0.length p0, l0⟩ :: ⟨2, k38, 38, .slice A1 l1.length p1, l1⟩ :: []) wx))
  case first =>
    have HSX := Aside0.mk (fun (w' : World) (h : Env w0 (⟨g12, #[.int .i64 tk, .int .i64 tb], 29⟩ :: ⟨g10, #[.int .i64 0, .slice none 0 0, .slice none 0 0, .bool false], 24⟩ :: ⟨g2, #[.int .i64 x0, .int .i64 x1, .int .i64 x2, .int .i64 x3], 58⟩ :: ⟨g1, #[.int .i64 t, .slice A0 l0.length p0, .slice A1 l1.length p1, .bool fl], 24⟩ :: ⟨gN, ncells bg ch s c, 56⟩ :: B) [] w') => (show w'.cell? ⟨g2, 0, none⟩ = some (.int .i64 x0) ∧ w'.cell? ⟨g2, 1, none⟩ = some (.int .i64 x1) ∧ w'.cell? ⟨g2, 2, none⟩ = some (.int .i64 x2) ∧ w'.cell? ⟨g2, 3, none⟩ = some (.int .i64 x3) ∧ w'.cell? ⟨g1, 0, none⟩ = some (.int .i64 t) ∧ w'.cell? ⟨g1, 1, none⟩ = some (.slice A0 l0.length p0) ∧ w'.cell? ⟨g1, 2, none⟩ = some (.slice A1 l1.length p1) ∧ w'.cell? ⟨g1, 3, none⟩ = some (.bool fl) from ⟨h.at_ 2 0 rfl rfl, h.at_ 2 1 rfl rfl, h.at_ 2 2 rfl rfl, h.at_ 2 3 rfl rfl, h.at_ 3 0 rfl rfl, h.at_ 3 1 rfl rfl, h.at_ 3 2 rfl rfl, h.at_ 3 3 rfl rfl⟩))
    go_region_held3 (fun w' => w'.cell? ⟨g2, 0, none⟩ = some (.int .i64 x0) ∧ w'.cell? ⟨g2, 1, none⟩ = some (.int .i64 x1) ∧ w'.cell? ⟨g2, 2, none⟩ = some (.int .i64 x2) ∧ w'.cell? ⟨g2, 3, none⟩ = some (.int .i64 x3) ∧ w'.cell? ⟨g1, 0, none⟩ = some (.int .i64 t) ∧ w'.cell? ⟨g1, 1, none⟩ = some (.slice A0 l0.length p0) ∧ w'.cell? ⟨g1, 2, none⟩ = some (.slice A1 l1.length p1) ∧ w'.cell? ⟨g1, 3, none⟩ = some (.bool fl)) (first
        | exact HSX.out _ (HBL.out.push #[.int .i64 t, .slice P0 r2.length q0_, .slice P1 r3.length q1_, .bool r4] 24).bare1
        | exact HSX.out _ HBL.out.bare
        | exact HSX.out _ HBL.out.bare1
        | exact HSX.out _ (HBL.out.push #[.int .i64 0, .slice none 0 0, .slice none 0 0, .bool false] 24).bare1
        | exact HSX.out _ HBL.out.drew.bare
        | exact HSX.out _ HBL.out.drew.bare1
        | exact HSX.out _ (HBL.out.push #[.int .i64 0, .slice none 0 0, .slice none 0 0, .bool false] 24).drew.bare1
        | exact HSX.out _ HF.out.bare
        | exact HSX.out _ HF.out.bare1
        | exact HSX.out _ (HF.out.push #[.int .i64 0, .slice none 0 0, .slice none 0 0, .bool false] 24).bare1
        | exact HSX.out _ HF.out.drew.bare
        | exact HSX.out _ HF.out.drew.bare1
        | exact HSX.out _ (HF.out.push #[.int .i64 0, .slice none 0 0, .slice none 0 0, .bool false] 24).drew.bare1
        | exact HSX.out _ HE.out.bare
        | exact HSX.out _ HE.out.bare1
        | exact HSX.out _ (HE.out.push #[.int .i64 0, .slice none 0 0, .slice none 0 0, .bool false] 24).bare1
        | exact HSX.out _ HE.out.drew.bare
        | exact HSX.out _ HE.out.drew.bare1
        | exact HSX.out _ (HE.out.push #[.int .i64 0, .slice none 0 0, .slice none 0 0, .bool false] 24).drew.bare1
        | exact HSX.out _ (HBL.out.book4 (.int .i64 t) (.slice P0 r2.length q0_) (.slice P1 r3.length q1_) (.bool r4)).bare1
        | exact HSX.out _ ((HBL.out.push #[.int .i64 0, .slice none 0 0, .slice none 0 0, .bool false] 24).book4 (.int .i64 t) (.slice P0 r2.length q0_) (.slice P1 r3.length q1_) (.bool r4)).bare1) (first
        | ((go_at_call 32; (with_reducible refine (winnowlaw19_few.calls x1 0 ((r : Int) - 1) (rt : Int) _ HRT.out).mono ?_); rintro e w_HF ⟨rfl, hB⟩; have HF := Aside0.mk ((HE.out.drew).below hB.below); clear hB))
        | ((go_at_call 32; (with_reducible refine (winnowlaw19_few.calls x1 0 ((r : Int) - 1) (rt : Int) _ HRT.out).mono ?_); rintro e w_HF ⟨rfl, hB⟩; have HF := Aside0.mk (((HE.out.push #[.int .i64 0, .slice none 0 0, .slice none 0 0, .bool false] 24).drew).below hB.below); clear hB))
        | ((go_at_call 30; (with_reducible refine (blame_any t fl _ _ l0 _ _ l1 rt mt n t r2 r3 r4 false 0 _ ((HF.out).row_ 0 rfl) ((HF.out).row_ 1 rfl) HL0.out HL1.out ((HF.out).tab HT.out) HB.out).mono ?_); rintro e w_HBL ⟨v0, v1, rfl, s0, s1, hB⟩; have hE := (HF.out).rows2 hB rfl s0 s1 3 4 (show ([3, 4, 1, 2] : List Nat).Nodup from by decide) (by decide) (by decide); obtain ⟨P0, q0_, rfl⟩ := Kd.R_slice s0; obtain ⟨P1, q1_, rfl⟩ := Kd.R_slice s1; have HBL := Aside0.mk hE; clear hB s0 s1 hE; (try have y0_ : World.cell? _ ⟨_, 0, none⟩ = some (.int .i64 0) := HBL.out.at_ 0 0 rfl rfl); (try have y1_ : World.cell? _ ⟨_, 1, none⟩ = some (.slice none 0 0) := HBL.out.at_ 0 1 rfl rfl); (try have y2_ : World.cell? _ ⟨_, 2, none⟩ = some (.slice none 0 0) := HBL.out.at_ 0 2 rfl rfl); (try have y3_ : World.cell? _ ⟨_, 3, none⟩ = some (.bool false) := HBL.out.at_ 0 3 rfl rfl); (try have f0_ := HBL.out.fr_ 0 0 (cs := #[.int .i64 0, .slice none 0 0, .slice none 0 0, .bool false]) rfl); (try have f1_ := HBL.out.fr_ 0 1 (cs := #[.int .i64 0, .slice none 0 0, .slice none 0 0, .bool false]) rfl); (try have f2_ := HBL.out.fr_ 0 2 (cs := #[.int .i64 0, .slice none 0 0, .slice none 0 0, .bool false]) rfl); (try have f3_ := HBL.out.fr_ 0 3 (cs := #[.int .i64 0, .slice none 0 0, .slice none 0 0, .bool false]) rfl)))
        | ((go_at_call 30; (with_reducible refine (blame_any t fl _ _ l0 _ _ l1 rt mt n t r2 r3 r4 false 0 _ (((HF.out.push #[.int .i64 0, .slice none 0 0, .slice none 0 0, .bool false] 24)).row_ 0 rfl) (((HF.out.push #[.int .i64 0, .slice none 0 0, .slice none 0 0, .bool false] 24)).row_ 1 rfl) HL0.out HL1.out (((HF.out.push #[.int .i64 0, .slice none 0 0, .slice none 0 0, .bool false] 24)).tab HT.out) HB.out).mono ?_); rintro e w_HBL ⟨v0, v1, rfl, s0, s1, hB⟩; have hE := ((HF.out.push #[.int .i64 0, .slice none 0 0, .slice none 0 0, .bool false] 24)).rows2 hB rfl s0 s1 3 4 (show ([3, 4, 1, 2] : List Nat).Nodup from by decide) (by decide) (by decide); obtain ⟨P0, q0_, rfl⟩ := Kd.R_slice s0; obtain ⟨P1, q1_, rfl⟩ := Kd.R_slice s1; have HBL := Aside0.mk hE; clear hB s0 s1 hE; (try have y0_ : World.cell? _ ⟨_, 0, none⟩ = some (.int .i64 0) := HBL.out.at_ 0 0 rfl rfl); (try have y1_ : World.cell? _ ⟨_, 1, none⟩ = some (.slice none 0 0) := HBL.out.at_ 0 1 rfl rfl); (try have y2_ : World.cell? _ ⟨_, 2, none⟩ = some (.slice none 0 0) := HBL.out.at_ 0 2 rfl rfl); (try have y3_ : World.cell? _ ⟨_, 3, none⟩ = some (.bool false) := HBL.out.at_ 0 3 rfl rfl); (try have f0_ := HBL.out.fr_ 0 0 (cs := #[.int .i64 0, .slice none 0 0, .slice none 0 0, .bool false]) rfl); (try have f1_ := HBL.out.fr_ 0 1 (cs := #[.int .i64 0, .slice none 0 0, .slice none 0 0, .bool false]) rfl); (try have f2_ := HBL.out.fr_ 0 2 (cs := #[.int .i64 0, .slice none 0 0, .slice none 0 0, .bool false]) rfl); (try have f3_ := HBL.out.fr_ 0 3 (cs := #[.int .i64 0, .slice none 0 0, .slice none 0 0, .bool false]) rfl))))
    all_goals (go_wp2_with fail; go_meet; first | exact ⟨_, _, _, _, _, rfl, rfl, rfl, ⟨HBL.out.book4 (.int .i64 t) (.slice P0 r2.length q0_) (.slice P1 r3.length q1_) (.bool r4)⟩⟩ | exact ⟨_, _, _, _, _, rfl, rfl, rfl, ⟨HBL.out.push #[.int .i64 t, .slice P0 r2.length q0_, .slice P1 r3.length q1_, .bool r4] 24⟩⟩ | exact ⟨_, _, _, _, _, rfl, rfl, rfl, ⟨(HBL.out.push #[.int .i64 0, .slice none 0 0, .slice none 0 0, .bool false] 24).book4 (.int .i64 t) (.slice P0 r2.length q0_) (.slice P1 r3.length q1_) (.bool r4)⟩⟩)
  case rest =>
    clear HE
    obtain ⟨g24, P0, q0_, P1, q1_, rfl, rfl, rfl, HE⟩ := hcut
    clear hwr_
    go_upto_region 28 with fail
    have HSX := Aside0.mk (fun (w' : World) (z n : Bx) (h : Env w0 (⟨g24, #[.int .i64 t, .slice P0 r2.length q0_, .slice P1 r3.length q1_, .bool r4], 24⟩ :: ⟨g12, #[.int .i64 tk, .int .i64 tb], 29⟩ :: z :: ⟨g2, #[.int .i64 x0, .int .i64 x1, .int .i64 x2, .int .i64 x3], 58⟩ :: ⟨g1, #[.int .i64 t, .slice A0 l0.length p0, .slice A1 l1.length p1, .bool fl], 24⟩ :: n :: B) [] w') => (show w'.cell? ⟨g24, 0, none⟩ = some (.int .i64 t) ∧ w'.cell? ⟨g24, 1, none⟩ = some (.slice P0 r2.length q0_) ∧ w'.cell? ⟨g24, 2, none⟩ = some (.slice P1 r3.length q1_) ∧ w'.cell? ⟨g24, 3, none⟩ = some (.bool r4) from ⟨h.at_ 0 0 rfl rfl, h.at_ 0 1 rfl rfl, h.at_ 0 2 rfl rfl, h.at_ 0 3 rfl rfl⟩))
    have f10_0 : wc.frozen? ⟨g10, 0, none⟩ = false := HE.out.fr_ 2 0 rfl
    have z10_0 : wc.cell? ⟨g10, 0, none⟩ = some (.int .i64 0) := HE.out.at_ 2 0 rfl rfl
    have f10_1 : wc.frozen? ⟨g10, 1, none⟩ = false := HE.out.fr_ 2 1 rfl
    have z10_1 : wc.cell? ⟨g10, 1, none⟩ = some (.slice none 0 0) := HE.out.at_ 2 1 rfl rfl
    have f10_2 : wc.frozen? ⟨g10, 2, none⟩ = false := HE.out.fr_ 2 2 rfl
    have z10_2 : wc.cell? ⟨g10, 2, none⟩ = some (.slice none 0 0) := HE.out.at_ 2 2 rfl rfl
    have f10_3 : wc.frozen? ⟨g10, 3, none⟩ = false := HE.out.fr_ 2 3 rfl
    have z10_3 : wc.cell? ⟨g10, 3, none⟩ = some (.bool false) := HE.out.at_ 2 3 rfl rfl
    go_region_held3 (fun w' => w'.cell? ⟨g24, 0, none⟩ = some (.int .i64 t) ∧ w'.cell? ⟨g24, 1, none⟩ = some (.slice P0 r2.length q0_) ∧ w'.cell? ⟨g24, 2, none⟩ = some (.slice P1 r3.length q1_) ∧ w'.cell? ⟨g24, 3, none⟩ = some (.bool r4)) (first
        | (with_reducible exact HSX.out _ _ _ HA.out.bare)
        | (with_reducible exact HSX.out _ _ _ HA.out.drew.bare)
        | (with_reducible exact HSX.out _ _ _ (HA.out.st2 (.int .i64 t) (.slice P0 r2.length q0_) (.slice P1 r3.length q1_) (.bool r4)).bare)
        | (with_reducible exact HSX.out _ _ _ (HA.out.st2 (.int .i64 t) (.slice P0 r2.length q0_) (.slice P1 r3.length q1_) (.bool r4)).drew.bare)
        | (with_reducible exact HSX.out _ _ _ HE.out.bare)
        | (with_reducible exact HSX.out _ _ _ HE.out.drew.bare)
        | (with_reducible exact HSX.out _ _ _ (HE.out.st2 (.int .i64 t) (.slice P0 r2.length q0_) (.slice P1 r3.length q1_) (.bool r4)).bare)
        | (with_reducible exact HSX.out _ _ _ (HE.out.st2 (.int .i64 t) (.slice P0 r2.length q0_) (.slice P1 r3.length q1_) (.bool r4)).drew.bare)) (first
        | ((go_at_call 34; (with_reducible refine (winnowlaw19_sized.calls t P0 q0_ r2 P1 q1_ r3 r4 m r true _ (((HE.out.drew)).row_ 0 rfl) (((HE.out.drew)).cap_ 0 rfl).2 (((HE.out.drew)).row_ 1 rfl) (((HE.out.drew)).cap_ 1 rfl).2 HSZ.out).mono ?_); rintro e w_HA ⟨rfl, hB⟩; have HA := Aside0.mk (((HE.out.drew)).below hB); clear hB; (try have f0_HA := HA.out.fr_ 2 0 rfl); (try have z0_HA := HA.out.at_ 2 0 rfl rfl); (try have f1_HA := HA.out.fr_ 2 1 rfl); (try have z1_HA := HA.out.at_ 2 1 rfl rfl); (try have f2_HA := HA.out.fr_ 2 2 rfl); (try have z2_HA := HA.out.at_ 2 2 rfl rfl); (try have f3_HA := HA.out.fr_ 2 3 rfl); (try have z3_HA := HA.out.at_ 2 3 rfl rfl)))
        | ((go_at_call 34; (with_reducible refine (winnowlaw19_sized.calls t P0 q0_ r2 P1 q1_ r3 r4 m r true _ (((HE.out.st2 (.int .i64 t) (.slice P0 r2.length q0_) (.slice P1 r3.length q1_) (.bool r4)).drew).row_ 0 rfl) (((HE.out.st2 (.int .i64 t) (.slice P0 r2.length q0_) (.slice P1 r3.length q1_) (.bool r4)).drew).cap_ 0 rfl).2 (((HE.out.st2 (.int .i64 t) (.slice P0 r2.length q0_) (.slice P1 r3.length q1_) (.bool r4)).drew).row_ 1 rfl) (((HE.out.st2 (.int .i64 t) (.slice P0 r2.length q0_) (.slice P1 r3.length q1_) (.bool r4)).drew).cap_ 1 rfl).2 HSZ.out).mono ?_); rintro e w_HA ⟨rfl, hB⟩; have HA := Aside0.mk (((HE.out.st2 (.int .i64 t) (.slice P0 r2.length q0_) (.slice P1 r3.length q1_) (.bool r4)).drew).below hB); clear hB; (try have f0_HA := HA.out.fr_ 2 0 rfl); (try have z0_HA := HA.out.at_ 2 0 rfl rfl); (try have f1_HA := HA.out.fr_ 2 1 rfl); (try have z1_HA := HA.out.at_ 2 1 rfl rfl); (try have f2_HA := HA.out.fr_ 2 2 rfl); (try have z2_HA := HA.out.at_ 2 2 rfl rfl); (try have f3_HA := HA.out.fr_ 2 3 rfl); (try have z3_HA := HA.out.at_ 2 3 rfl rfl))))
    all_goals (go_wp2_with fail; first
      | (have hE := HA.out; refine bodyPost_ret (results_ct rfl _ _ g10 24 #[.int .i64 t, .slice P0 r2.length q0_, .slice P1 r3.length q1_, .bool r4] (0, 0) _ rfl (hE.blk_ 2 rfl) Tryd.underlying24 rfl (by kernel_rfl)) rfl ?_; exact ⟨_, _, _, _, by first | simp; done | rfl, hE.sub (.cons _ (.cons _ (.cons _ (.cons _ (.cons _ (List.Sublist.refl _)))))) (List.Sublist.refl _)⟩)
      | (have hE := (HA.out.st2 (.int .i64 t) (.slice P0 r2.length q0_) (.slice P1 r3.length q1_) (.bool r4)); refine bodyPost_ret (results_ct rfl _ _ g10 24 #[.int .i64 t, .slice P0 r2.length q0_, .slice P1 r3.length q1_, .bool r4] (0, 0) _ rfl (hE.blk_ 2 rfl) Tryd.underlying24 rfl (by kernel_rfl)) rfl ?_; exact ⟨_, _, _, _, by first | simp; done | rfl, hE.sub (.cons _ (.cons _ (.cons _ (.cons _ (.cons _ (List.Sublist.refl _)))))) (List.Sublist.refl _)⟩))
end Go.Proofs.YtponmfnegdlppaaDoor.P

end
section
/- made: a move on a book, path by path (printed by HMade.gen.py). -/
namespace Go.Proofs.YtponmfnegdlppaaDoor.P
open Go.RowKit Go.Proofs.YtponmfnegdlppaaDoorW.PrintWords Go.Proofs.YtponmfnegdlppaaDoorW.PrintLast Go.Proofs.YtponmfnegdlppaaDoorW.PrintMore
set_option linter.unusedVariables false
set_option linter.unusedSimpArgs false

set_option maxHeartbeats 16000000 in
set_option maxRecDepth 100000 in
theorem made_blame_charge {w0 W : World} {B : List Bx} {gN : Nat} {bg ch : Nat → Bool} {s c t : Int} {A0 A1 : Option Addr} {p0 p1 : Nat} {l0 l1 : List S38} {fl : Bool} {x0 x1 x2 x3 : Int} {m r k : Nat} {tk tb : Int} (h : Env w0 (⟨gN, ncells bg ch s c, 56⟩ :: B) (⟨1, k38, 38, .slice A0 l0.length p0, l0⟩ :: ⟨2, k38, 38, .slice A1 l1.length p1, l1⟩ :: []) W) (hT : Tab w0) (hl0 : l0.length ≤ 6000000000000) (hl1 : l1.length ≤ 6000000000000)
    (hpk : winnowlaw19_picked.f x1 m r = some (tk, tb)) (hnu : winnowlaw19_number.f tk tb m = some (k : Int)) {rt mt n : Nat} {r2 r3 : List S38} {r4 : Bool} (hop : winnowlaw19_few.f x0 0 3 = some 3) (hm1 : 1 ≤ m) (hm2 : m ≤ 6) (hr1 : 1 ≤ r) (hr2 : r ≤ 6) (hmt : winnowlaw19_few.f x2 0 ((m : Int) - 1) = some (mt : Int)) (hrt : winnowlaw19_few.f x1 0 ((r : Int) - 1) = some (rt : Int)) (hxa : winnowlaw19_few.f x3 1 4 = some (n : Int)) (hb : blameP t l0 l1 fl rt mt n = (t, r2, r3, r4, true, 0)) (hsz : winnowlaw19_sized.f t r2 r3 r4 m r = some true) (hmk : mt < 16) (hn1 : 1 ≤ n) (hn2 : n ≤ 16) (hbg : bg (mt * 17 + n) = true) (hch : ch (mt * 17 + n) = false) (hs : 0 ≤ c ∧ c ≤ 1000000000000) :
    Calls Tryd.prog 35 #[.pointer (some ⟨gN, 0, none⟩), .agg #[.int .i64 t, .slice A0 l0.length p0, .slice A1 l1.length p1, .bool fl], .agg #[.int .i64 x0, .int .i64 x1, .int .i64 x2, .int .i64 x3], .int .i64 m, .int .i64 r] W fun e W' => ∃ (P0 P1 : Option Addr) (q0_ q1_ : Nat), e = .returned (.tuple #[.agg #[.int .i64 t, .slice P0 r2.length q0_, .slice P1 r3.length q1_, .bool r4], .bool true]) ∧ Env w0 (⟨gN, ncells bg (upd ch (mt * 17 + n)) s (c + 1), 56⟩ :: B) (⟨3, k38, 38, .slice P0 r2.length q0_, r2⟩ :: ⟨4, k38, 38, .slice P1 r3.length q1_, r3⟩ :: ⟨1, k38, 38, .slice A0 l0.length p0, l0⟩ :: ⟨2, k38, 38, .slice A1 l1.length p1, l1⟩ :: []) W' := by
  have HH := Aside0.mk h
  have HPK := Aside0.mk hpk
  have HNU := Aside0.mk hnu
  have HT := Aside0.mk hT
  have HL0 := Aside0.mk hl0
  have HL1 := Aside0.mk hl1
  have HOP := Aside0.mk hop
  have HM1 := Aside0.mk hm1
  have HM2 := Aside0.mk hm2
  have HR1 := Aside0.mk hr1
  have HR2 := Aside0.mk hr2
  have HMT := Aside0.mk hmt
  have HRT := Aside0.mk hrt
  have HXA := Aside0.mk hxa
  have HB := Aside0.mk hb
  have HSZ := Aside0.mk hsz
  have HMK := Aside0.mk hmk
  have HN1 := Aside0.mk hn1
  have HN2 := Aside0.mk hn2
  have HBG := Aside0.mk hbg
  have HCH := Aside0.mk hch
  have HS := Aside0.mk hs
  clear hpk hnu hT hl0 hl1 hop hm1 hm2 hr1 hr2 hmt hrt hxa hb hsz hmk hn1 hn2 hbg hch hs
  have z0 : (W.alloc (.cells #[.int .i64 t, .slice A0 l0.length p0, .slice A1 l1.length p1, .bool fl] 24)).heap.size = W.heap.size + 1 := by simp
  have z1 : ((W.alloc (.cells #[.int .i64 t, .slice A0 l0.length p0, .slice A1 l1.length p1, .bool fl] 24)).alloc (.cells #[.int .i64 x0, .int .i64 x1, .int .i64 x2, .int .i64 x3] 58)).heap.size = W.heap.size + 1 + 1 := by simp
  have hE0 := ((h.push #[.int .i64 t, .slice A0 l0.length p0, .slice A1 l1.length p1, .bool fl] 24).push #[.int .i64 x0, .int .i64 x1, .int .i64 x2, .int .i64 x3] 58).push #[.int .i64 0, .slice none 0 0, .slice none 0 0, .bool false] 24
  rw [z0, z1] at hE0
  clear z0 z1
  obtain ⟨g10, hg2⟩ : ∃ g, g = W.heap.size + 1 + 1 := ⟨_, rfl⟩
  obtain ⟨g2, hg1⟩ : ∃ g, g = W.heap.size + 1 := ⟨_, rfl⟩
  obtain ⟨g1, hg0⟩ : ∃ g, g = W.heap.size := ⟨_, rfl⟩
  rw [← hg2, ← hg1, ← hg0] at hE0
  obtain ⟨W0, hW0, hE⟩ : ∃ W0, ((W.alloc (.cells #[.int .i64 t, .slice A0 l0.length p0, .slice A1 l1.length p1, .bool fl] 24)).alloc (.cells #[.int .i64 x0, .int .i64 x1, .int .i64 x2, .int .i64 x3] 58)).alloc (.cells #[.int .i64 0, .slice none 0 0, .slice none 0 0, .bool false] 24) = W0 ∧ Env w0 _ _ W0 := ⟨_, rfl, hE0⟩
  have HG0 := Aside0.mk hg0
  have HG1 := Aside0.mk hg1
  have HG2 := Aside0.mk hg2
  have HW0 := Aside0.mk hW0
  have HE := Aside0.mk hE
  clear hE hE0 hW0 hg0 hg1 hg2
  clear h
  have hu24 := Tryd.underlying24
  have hu29 := Tryd.underlying29
  have hu56 := Tryd.underlying56
  have hu58 := Tryd.underlying58
  go_enter Tryd.func35, Tryd.ntmps35
  go_upto_region 1 with fail
  rw [← HG2.out, ← HG1.out, ← HG0.out, HW0.out]
  clear HW0 HG0 HG1 HG2
  have xg2_0 : W0.cell? ⟨g2, 0, none⟩ = some (.int .i64 x0) := HE.out.at_ 1 0 rfl rfl
  have xg2_1 : W0.cell? ⟨g2, 1, none⟩ = some (.int .i64 x1) := HE.out.at_ 1 1 rfl rfl
  have xg2_2 : W0.cell? ⟨g2, 2, none⟩ = some (.int .i64 x2) := HE.out.at_ 1 2 rfl rfl
  have xg2_3 : W0.cell? ⟨g2, 3, none⟩ = some (.int .i64 x3) := HE.out.at_ 1 3 rfl rfl
  go_wp2_with fail
  refine (winnowlaw19_picked.calls x1 m r tk tb _ HPK.out).mono ?_
  clear xg2_0 xg2_1 xg2_2 xg2_3
  rintro e w1 ⟨rfl, hB⟩
  have hE := HE.out.below hB
  clear HE hB
  have HE := Aside0.mk hE
  clear hE
  go_upto_region 2 with fail
  have hE := HE.out.push #[.int .i64 tk, .int .i64 tb] 29
  obtain ⟨g12, hg⟩ : ∃ g, g = w1.heap.size := ⟨_, rfl⟩
  rw [← hg] at hE ⊢
  generalize w1.alloc (.cells #[.int .i64 tk, .int .i64 tb] 29) = w2 at hE ⊢
  clear hg HE
  have HE := Aside0.mk hE
  clear hE
  have xg12_0 : w2.cell? ⟨g12, 0, none⟩ = some (.int .i64 tk) := HE.out.at_ 0 0 rfl rfl
  have xg12_1 : w2.cell? ⟨g12, 1, none⟩ = some (.int .i64 tb) := HE.out.at_ 0 1 rfl rfl
  go_wp2_with fail
  refine (winnowlaw19_number.calls tk tb m k _ HNU.out).mono ?_
  clear xg12_0 xg12_1
  rintro e w3 ⟨rfl, hB⟩
  have hE := HE.out.below hB
  clear HE hB
  have HE := Aside0.mk hE
  clear hE
  have xg2_0 : w3.cell? ⟨g2, 0, none⟩ = some (.int .i64 x0) := HE.out.at_ 2 0 rfl rfl
  have xg2_1 : w3.cell? ⟨g2, 1, none⟩ = some (.int .i64 x1) := HE.out.at_ 2 1 rfl rfl
  have xg2_2 : w3.cell? ⟨g2, 2, none⟩ = some (.int .i64 x2) := HE.out.at_ 2 2 rfl rfl
  have xg2_3 : w3.cell? ⟨g2, 3, none⟩ = some (.int .i64 x3) := HE.out.at_ 2 3 rfl rfl
  go_wp2_with fail
  refine (winnowlaw19_few.calls x0 0 3 3 _ HOP.out).mono ?_
  clear xg2_0 xg2_1 xg2_2 xg2_3
  rintro e w4 ⟨rfl, hB⟩
  have hE := HE.out.below hB.below
  clear HE hB
  have HE := Aside0.mk hE
  clear hE
  have hm_ : ((m : Int) == 0) = false := by have := HM1.out; simp; omega
  have hwm_ : IntKind.i64.wrap ((m : Int) - 1) = (m : Int) - 1 := by rw [IntKind.wrap_i64]; have := HM1.out; have := HM2.out; omega
  have xg2_0 : w4.cell? ⟨g2, 0, none⟩ = some (.int .i64 x0) := HE.out.at_ 2 0 rfl rfl
  have xg2_1 : w4.cell? ⟨g2, 1, none⟩ = some (.int .i64 x1) := HE.out.at_ 2 1 rfl rfl
  have xg2_2 : w4.cell? ⟨g2, 2, none⟩ = some (.int .i64 x2) := HE.out.at_ 2 2 rfl rfl
  have xg2_3 : w4.cell? ⟨g2, 3, none⟩ = some (.int .i64 x3) := HE.out.at_ 2 3 rfl rfl
  go_wp2_with fail
  refine (winnowlaw19_few.calls x2 0 ((m : Int) - 1) (mt : Int) _ HMT.out).mono ?_
  clear xg2_0 xg2_1 xg2_2 xg2_3
  rintro e w5 ⟨rfl, hB⟩
  have hE := HE.out.below hB.below
  clear HE hB
  have HE := Aside0.mk hE
  clear hE
  have xg2_0 : w5.cell? ⟨g2, 0, none⟩ = some (.int .i64 x0) := HE.out.at_ 2 0 rfl rfl
  have xg2_1 : w5.cell? ⟨g2, 1, none⟩ = some (.int .i64 x1) := HE.out.at_ 2 1 rfl rfl
  have xg2_2 : w5.cell? ⟨g2, 2, none⟩ = some (.int .i64 x2) := HE.out.at_ 2 2 rfl rfl
  have xg2_3 : w5.cell? ⟨g2, 3, none⟩ = some (.int .i64 x3) := HE.out.at_ 2 3 rfl rfl
  go_wp2_with fail
  refine (winnowlaw19_few.calls x3 1 4 n _ HXA.out).mono ?_
  clear xg2_0 xg2_1 xg2_2 xg2_3
  rintro e w6 ⟨rfl, hB⟩
  have hE := HE.out.below hB.below
  clear HE hB
  have HE := Aside0.mk hE
  clear hE
  clear hwm_ hm_
  go_upto_region 23 with fail
  have hwr_ : IntKind.i64.wrap ((r : Int) - 1) = (r : Int) - 1 := by rw [IntKind.wrap_i64]; have := HR1.out; have := HR2.out; omega
  go_cut [24, 25, 26] (fun s0 s1 s2 wx => ∃ (g24 : Nat) (P0 : Option Addr) (q0_ : Nat) (P1 : Option Addr) (q1_ : Nat), s0 = .pointer (some ⟨g24, 0, none⟩) ∧ s1 = .bool true ∧ s2 = .int .i64 0 ∧ Aside0 (Env w0 (⟨g24, #[.int .i64 t, .slice P0 r2.length q0_, .slice P1 r3.length q1_, .bool r4], 24⟩ :: ⟨g12, #[.int .i64 tk, .int .i64 tb], 29⟩ :: ⟨g10, #[.int .i64 0, .slice none 0 0, .slice none 0 0, .bool false], 24⟩ :: ⟨g2, #[.int .i64 x0, .int .i64 x1, .int .i64 x2, .int .i64 x3], 58⟩ :: ⟨g1, #[.int .i64 t, .slice A0 l0.length p0, .slice A1 l1.length p1, .bool fl], 24⟩ :: ⟨gN, ncells bg ch s c, 56⟩ :: B) (⟨3, k38, 38, .slice P0 r2.length q0_, r2⟩ :: ⟨4, k38, 38, .slice P1 r3.length q1_, r3⟩ :: ⟨1, k38, 38, .slice A0 l0.length p0, l0⟩ :: ⟨2, k38, 38, .slice A1 l1.length p1, l1⟩ :: []) wx))
  case first =>
    have HSX := Aside0.mk (fun (w' : World) (h : Env w0 (⟨g12, #[.int .i64 tk, .int .i64 tb], 29⟩ :: ⟨g10, #[.int .i64 0, .slice none 0 0, .slice none 0 0, .bool false], 24⟩ :: ⟨g2, #[.int .i64 x0, .int .i64 x1, .int .i64 x2, .int .i64 x3], 58⟩ :: ⟨g1, #[.int .i64 t, .slice A0 l0.length p0, .slice A1 l1.length p1, .bool fl], 24⟩ :: ⟨gN, ncells bg ch s c, 56⟩ :: B) [] w') => (show w'.cell? ⟨g2, 0, none⟩ = some (.int .i64 x0) ∧ w'.cell? ⟨g2, 1, none⟩ = some (.int .i64 x1) ∧ w'.cell? ⟨g2, 2, none⟩ = some (.int .i64 x2) ∧ w'.cell? ⟨g2, 3, none⟩ = some (.int .i64 x3) ∧ w'.cell? ⟨g1, 0, none⟩ = some (.int .i64 t) ∧ w'.cell? ⟨g1, 1, none⟩ = some (.slice A0 l0.length p0) ∧ w'.cell? ⟨g1, 2, none⟩ = some (.slice A1 l1.length p1) ∧ w'.cell? ⟨g1, 3, none⟩ = some (.bool fl) from ⟨h.at_ 2 0 rfl rfl, h.at_ 2 1 rfl rfl, h.at_ 2 2 rfl rfl, h.at_ 2 3 rfl rfl, h.at_ 3 0 rfl rfl, h.at_ 3 1 rfl rfl, h.at_ 3 2 rfl rfl, h.at_ 3 3 rfl rfl⟩))
    go_region_held3 (fun w' => w'.cell? ⟨g2, 0, none⟩ = some (.int .i64 x0) ∧ w'.cell? ⟨g2, 1, none⟩ = some (.int .i64 x1) ∧ w'.cell? ⟨g2, 2, none⟩ = some (.int .i64 x2) ∧ w'.cell? ⟨g2, 3, none⟩ = some (.int .i64 x3) ∧ w'.cell? ⟨g1, 0, none⟩ = some (.int .i64 t) ∧ w'.cell? ⟨g1, 1, none⟩ = some (.slice A0 l0.length p0) ∧ w'.cell? ⟨g1, 2, none⟩ = some (.slice A1 l1.length p1) ∧ w'.cell? ⟨g1, 3, none⟩ = some (.bool fl)) (first
        | exact HSX.out _ (HBL.out.push #[.int .i64 t, .slice P0 r2.length q0_, .slice P1 r3.length q1_, .bool r4] 24).bare1
        | exact HSX.out _ HBL.out.bare
        | exact HSX.out _ HBL.out.bare1
        | exact HSX.out _ (HBL.out.push #[.int .i64 0, .slice none 0 0, .slice none 0 0, .bool false] 24).bare1
        | exact HSX.out _ HBL.out.drew.bare
        | exact HSX.out _ HBL.out.drew.bare1
        | exact HSX.out _ (HBL.out.push #[.int .i64 0, .slice none 0 0, .slice none 0 0, .bool false] 24).drew.bare1
        | exact HSX.out _ HF.out.bare
        | exact HSX.out _ HF.out.bare1
        | exact HSX.out _ (HF.out.push #[.int .i64 0, .slice none 0 0, .slice none 0 0, .bool false] 24).bare1
        | exact HSX.out _ HF.out.drew.bare
        | exact HSX.out _ HF.out.drew.bare1
        | exact HSX.out _ (HF.out.push #[.int .i64 0, .slice none 0 0, .slice none 0 0, .bool false] 24).drew.bare1
        | exact HSX.out _ HE.out.bare
        | exact HSX.out _ HE.out.bare1
        | exact HSX.out _ (HE.out.push #[.int .i64 0, .slice none 0 0, .slice none 0 0, .bool false] 24).bare1
        | exact HSX.out _ HE.out.drew.bare
        | exact HSX.out _ HE.out.drew.bare1
        | exact HSX.out _ (HE.out.push #[.int .i64 0, .slice none 0 0, .slice none 0 0, .bool false] 24).drew.bare1
        | exact HSX.out _ (HBL.out.book4 (.int .i64 t) (.slice P0 r2.length q0_) (.slice P1 r3.length q1_) (.bool r4)).bare1
        | exact HSX.out _ ((HBL.out.push #[.int .i64 0, .slice none 0 0, .slice none 0 0, .bool false] 24).book4 (.int .i64 t) (.slice P0 r2.length q0_) (.slice P1 r3.length q1_) (.bool r4)).bare1) (first
        | ((go_at_call 32; (with_reducible refine (winnowlaw19_few.calls x1 0 ((r : Int) - 1) (rt : Int) _ HRT.out).mono ?_); rintro e w_HF ⟨rfl, hB⟩; have HF := Aside0.mk ((HE.out.drew).below hB.below); clear hB))
        | ((go_at_call 32; (with_reducible refine (winnowlaw19_few.calls x1 0 ((r : Int) - 1) (rt : Int) _ HRT.out).mono ?_); rintro e w_HF ⟨rfl, hB⟩; have HF := Aside0.mk (((HE.out.push #[.int .i64 0, .slice none 0 0, .slice none 0 0, .bool false] 24).drew).below hB.below); clear hB))
        | ((go_at_call 30; (with_reducible refine (blame_any t fl _ _ l0 _ _ l1 rt mt n t r2 r3 r4 true 0 _ ((HF.out).row_ 0 rfl) ((HF.out).row_ 1 rfl) HL0.out HL1.out ((HF.out).tab HT.out) HB.out).mono ?_); rintro e w_HBL ⟨v0, v1, rfl, s0, s1, hB⟩; have hE := (HF.out).rows2 hB rfl s0 s1 3 4 (show ([3, 4, 1, 2] : List Nat).Nodup from by decide) (by decide) (by decide); obtain ⟨P0, q0_, rfl⟩ := Kd.R_slice s0; obtain ⟨P1, q1_, rfl⟩ := Kd.R_slice s1; have HBL := Aside0.mk hE; clear hB s0 s1 hE; (try have y0_ : World.cell? _ ⟨_, 0, none⟩ = some (.int .i64 0) := HBL.out.at_ 0 0 rfl rfl); (try have y1_ : World.cell? _ ⟨_, 1, none⟩ = some (.slice none 0 0) := HBL.out.at_ 0 1 rfl rfl); (try have y2_ : World.cell? _ ⟨_, 2, none⟩ = some (.slice none 0 0) := HBL.out.at_ 0 2 rfl rfl); (try have y3_ : World.cell? _ ⟨_, 3, none⟩ = some (.bool false) := HBL.out.at_ 0 3 rfl rfl); (try have f0_ := HBL.out.fr_ 0 0 (cs := #[.int .i64 0, .slice none 0 0, .slice none 0 0, .bool false]) rfl); (try have f1_ := HBL.out.fr_ 0 1 (cs := #[.int .i64 0, .slice none 0 0, .slice none 0 0, .bool false]) rfl); (try have f2_ := HBL.out.fr_ 0 2 (cs := #[.int .i64 0, .slice none 0 0, .slice none 0 0, .bool false]) rfl); (try have f3_ := HBL.out.fr_ 0 3 (cs := #[.int .i64 0, .slice none 0 0, .slice none 0 0, .bool false]) rfl)))
        | ((go_at_call 30; (with_reducible refine (blame_any t fl _ _ l0 _ _ l1 rt mt n t r2 r3 r4 true 0 _ (((HF.out.push #[.int .i64 0, .slice none 0 0, .slice none 0 0, .bool false] 24)).row_ 0 rfl) (((HF.out.push #[.int .i64 0, .slice none 0 0, .slice none 0 0, .bool false] 24)).row_ 1 rfl) HL0.out HL1.out (((HF.out.push #[.int .i64 0, .slice none 0 0, .slice none 0 0, .bool false] 24)).tab HT.out) HB.out).mono ?_); rintro e w_HBL ⟨v0, v1, rfl, s0, s1, hB⟩; have hE := ((HF.out.push #[.int .i64 0, .slice none 0 0, .slice none 0 0, .bool false] 24)).rows2 hB rfl s0 s1 3 4 (show ([3, 4, 1, 2] : List Nat).Nodup from by decide) (by decide) (by decide); obtain ⟨P0, q0_, rfl⟩ := Kd.R_slice s0; obtain ⟨P1, q1_, rfl⟩ := Kd.R_slice s1; have HBL := Aside0.mk hE; clear hB s0 s1 hE; (try have y0_ : World.cell? _ ⟨_, 0, none⟩ = some (.int .i64 0) := HBL.out.at_ 0 0 rfl rfl); (try have y1_ : World.cell? _ ⟨_, 1, none⟩ = some (.slice none 0 0) := HBL.out.at_ 0 1 rfl rfl); (try have y2_ : World.cell? _ ⟨_, 2, none⟩ = some (.slice none 0 0) := HBL.out.at_ 0 2 rfl rfl); (try have y3_ : World.cell? _ ⟨_, 3, none⟩ = some (.bool false) := HBL.out.at_ 0 3 rfl rfl); (try have f0_ := HBL.out.fr_ 0 0 (cs := #[.int .i64 0, .slice none 0 0, .slice none 0 0, .bool false]) rfl); (try have f1_ := HBL.out.fr_ 0 1 (cs := #[.int .i64 0, .slice none 0 0, .slice none 0 0, .bool false]) rfl); (try have f2_ := HBL.out.fr_ 0 2 (cs := #[.int .i64 0, .slice none 0 0, .slice none 0 0, .bool false]) rfl); (try have f3_ := HBL.out.fr_ 0 3 (cs := #[.int .i64 0, .slice none 0 0, .slice none 0 0, .bool false]) rfl))))
    all_goals (go_wp2_with fail; go_meet; first | exact ⟨_, _, _, _, _, rfl, rfl, rfl, ⟨HBL.out.book4 (.int .i64 t) (.slice P0 r2.length q0_) (.slice P1 r3.length q1_) (.bool r4)⟩⟩ | exact ⟨_, _, _, _, _, rfl, rfl, rfl, ⟨HBL.out.push #[.int .i64 t, .slice P0 r2.length q0_, .slice P1 r3.length q1_, .bool r4] 24⟩⟩ | exact ⟨_, _, _, _, _, rfl, rfl, rfl, ⟨(HBL.out.push #[.int .i64 0, .slice none 0 0, .slice none 0 0, .bool false] 24).book4 (.int .i64 t) (.slice P0 r2.length q0_) (.slice P1 r3.length q1_) (.bool r4)⟩⟩)
  case rest =>
    clear HE
    obtain ⟨g24, P0, q0_, P1, q1_, rfl, rfl, rfl, HE⟩ := hcut
    clear hwr_
    go_upto_region 26 with fail
    go_wp2_with fail
    refine (charge_env mt n HE.out.bf5 HMK.out HN1.out HN2.out HBG.out HCH.out HS.out).mono ?_
    rintro e w7 ⟨rfl, hE0⟩
    have hE := hE0.bb5
    clear HE hE0
    have HE := Aside0.mk hE
    clear hE
    go_upto_region 28 with fail
    have HSX := Aside0.mk (fun (w' : World) (z n : Bx) (h : Env w0 (⟨g24, #[.int .i64 t, .slice P0 r2.length q0_, .slice P1 r3.length q1_, .bool r4], 24⟩ :: ⟨g12, #[.int .i64 tk, .int .i64 tb], 29⟩ :: z :: ⟨g2, #[.int .i64 x0, .int .i64 x1, .int .i64 x2, .int .i64 x3], 58⟩ :: ⟨g1, #[.int .i64 t, .slice A0 l0.length p0, .slice A1 l1.length p1, .bool fl], 24⟩ :: n :: B) [] w') => (show w'.cell? ⟨g24, 0, none⟩ = some (.int .i64 t) ∧ w'.cell? ⟨g24, 1, none⟩ = some (.slice P0 r2.length q0_) ∧ w'.cell? ⟨g24, 2, none⟩ = some (.slice P1 r3.length q1_) ∧ w'.cell? ⟨g24, 3, none⟩ = some (.bool r4) from ⟨h.at_ 0 0 rfl rfl, h.at_ 0 1 rfl rfl, h.at_ 0 2 rfl rfl, h.at_ 0 3 rfl rfl⟩))
    have f10_0 : w7.frozen? ⟨g10, 0, none⟩ = false := HE.out.fr_ 2 0 rfl
    have z10_0 : w7.cell? ⟨g10, 0, none⟩ = some (.int .i64 0) := HE.out.at_ 2 0 rfl rfl
    have f10_1 : w7.frozen? ⟨g10, 1, none⟩ = false := HE.out.fr_ 2 1 rfl
    have z10_1 : w7.cell? ⟨g10, 1, none⟩ = some (.slice none 0 0) := HE.out.at_ 2 1 rfl rfl
    have f10_2 : w7.frozen? ⟨g10, 2, none⟩ = false := HE.out.fr_ 2 2 rfl
    have z10_2 : w7.cell? ⟨g10, 2, none⟩ = some (.slice none 0 0) := HE.out.at_ 2 2 rfl rfl
    have f10_3 : w7.frozen? ⟨g10, 3, none⟩ = false := HE.out.fr_ 2 3 rfl
    have z10_3 : w7.cell? ⟨g10, 3, none⟩ = some (.bool false) := HE.out.at_ 2 3 rfl rfl
    go_region_held3 (fun w' => w'.cell? ⟨g24, 0, none⟩ = some (.int .i64 t) ∧ w'.cell? ⟨g24, 1, none⟩ = some (.slice P0 r2.length q0_) ∧ w'.cell? ⟨g24, 2, none⟩ = some (.slice P1 r3.length q1_) ∧ w'.cell? ⟨g24, 3, none⟩ = some (.bool r4)) (first
        | (with_reducible exact HSX.out _ _ _ HA.out.bare)
        | (with_reducible exact HSX.out _ _ _ HA.out.drew.bare)
        | (with_reducible exact HSX.out _ _ _ (HA.out.st2 (.int .i64 t) (.slice P0 r2.length q0_) (.slice P1 r3.length q1_) (.bool r4)).bare)
        | (with_reducible exact HSX.out _ _ _ (HA.out.st2 (.int .i64 t) (.slice P0 r2.length q0_) (.slice P1 r3.length q1_) (.bool r4)).drew.bare)
        | (with_reducible exact HSX.out _ _ _ HE.out.bare)
        | (with_reducible exact HSX.out _ _ _ HE.out.drew.bare)
        | (with_reducible exact HSX.out _ _ _ (HE.out.st2 (.int .i64 t) (.slice P0 r2.length q0_) (.slice P1 r3.length q1_) (.bool r4)).bare)
        | (with_reducible exact HSX.out _ _ _ (HE.out.st2 (.int .i64 t) (.slice P0 r2.length q0_) (.slice P1 r3.length q1_) (.bool r4)).drew.bare)) (first
        | ((go_at_call 34; (with_reducible refine (winnowlaw19_sized.calls t P0 q0_ r2 P1 q1_ r3 r4 m r true _ (((HE.out.drew)).row_ 0 rfl) (((HE.out.drew)).cap_ 0 rfl).2 (((HE.out.drew)).row_ 1 rfl) (((HE.out.drew)).cap_ 1 rfl).2 HSZ.out).mono ?_); rintro e w_HA ⟨rfl, hB⟩; have HA := Aside0.mk (((HE.out.drew)).below hB); clear hB; (try have f0_HA := HA.out.fr_ 2 0 rfl); (try have z0_HA := HA.out.at_ 2 0 rfl rfl); (try have f1_HA := HA.out.fr_ 2 1 rfl); (try have z1_HA := HA.out.at_ 2 1 rfl rfl); (try have f2_HA := HA.out.fr_ 2 2 rfl); (try have z2_HA := HA.out.at_ 2 2 rfl rfl); (try have f3_HA := HA.out.fr_ 2 3 rfl); (try have z3_HA := HA.out.at_ 2 3 rfl rfl)))
        | ((go_at_call 34; (with_reducible refine (winnowlaw19_sized.calls t P0 q0_ r2 P1 q1_ r3 r4 m r true _ (((HE.out.st2 (.int .i64 t) (.slice P0 r2.length q0_) (.slice P1 r3.length q1_) (.bool r4)).drew).row_ 0 rfl) (((HE.out.st2 (.int .i64 t) (.slice P0 r2.length q0_) (.slice P1 r3.length q1_) (.bool r4)).drew).cap_ 0 rfl).2 (((HE.out.st2 (.int .i64 t) (.slice P0 r2.length q0_) (.slice P1 r3.length q1_) (.bool r4)).drew).row_ 1 rfl) (((HE.out.st2 (.int .i64 t) (.slice P0 r2.length q0_) (.slice P1 r3.length q1_) (.bool r4)).drew).cap_ 1 rfl).2 HSZ.out).mono ?_); rintro e w_HA ⟨rfl, hB⟩; have HA := Aside0.mk (((HE.out.st2 (.int .i64 t) (.slice P0 r2.length q0_) (.slice P1 r3.length q1_) (.bool r4)).drew).below hB); clear hB; (try have f0_HA := HA.out.fr_ 2 0 rfl); (try have z0_HA := HA.out.at_ 2 0 rfl rfl); (try have f1_HA := HA.out.fr_ 2 1 rfl); (try have z1_HA := HA.out.at_ 2 1 rfl rfl); (try have f2_HA := HA.out.fr_ 2 2 rfl); (try have z2_HA := HA.out.at_ 2 2 rfl rfl); (try have f3_HA := HA.out.fr_ 2 3 rfl); (try have z3_HA := HA.out.at_ 2 3 rfl rfl))))
    all_goals (go_wp2_with fail; first
      | (have hE := HA.out; refine bodyPost_ret (results_ct rfl _ _ g10 24 #[.int .i64 t, .slice P0 r2.length q0_, .slice P1 r3.length q1_, .bool r4] (0, 0) _ rfl (hE.blk_ 2 rfl) Tryd.underlying24 rfl (by kernel_rfl)) rfl ?_; exact ⟨_, _, _, _, by first | simp; done | rfl, hE.sub (.cons _ (.cons _ (.cons _ (.cons _ (.cons _ (List.Sublist.refl _)))))) (List.Sublist.refl _)⟩)
      | (have hE := (HA.out.st2 (.int .i64 t) (.slice P0 r2.length q0_) (.slice P1 r3.length q1_) (.bool r4)); refine bodyPost_ret (results_ct rfl _ _ g10 24 #[.int .i64 t, .slice P0 r2.length q0_, .slice P1 r3.length q1_, .bool r4] (0, 0) _ rfl (hE.blk_ 2 rfl) Tryd.underlying24 rfl (by kernel_rfl)) rfl ?_; exact ⟨_, _, _, _, by first | simp; done | rfl, hE.sub (.cons _ (.cons _ (.cons _ (.cons _ (.cons _ (List.Sublist.refl _)))))) (List.Sublist.refl _)⟩))
end Go.Proofs.YtponmfnegdlppaaDoor.P

end
section
/- Behind a Blame; bounds of what is noted. -/
namespace Go.Proofs.YtponmfnegdlppaaDoor.P
open Go.RowKit Go.Proofs.YtponmfnegdlppaaDoorW.PrintWords Go.Proofs.YtponmfnegdlppaaDoorW.PrintLast Go.Proofs.YtponmfnegdlppaaDoorW.PrintMore
set_option linter.unusedVariables false

/-- what a Blame that goes well is -/
theorem blame_form {t : Int} {l0 l1 : List S38} {fl : Bool} {a b c t' : Int} {l0' l1' : List S38} {fl' g : Bool} (h : blameP t l0 l1 fl a b c = (t', l0', l1', fl', g, 0)) :
    ∃ (m n : Nat) (s2 s3 : List S38) (s4 : Bool), a = m ∧ m < l1.length ∧ b = n ∧ n < l0.length ∧ 1 ≤ c ∧ c ≤ (rd_T38 l0 b).f1 ∧ holdP t l0 l1 fl a = (t, s2, s3, s4, 0) ∧ s2 = l0 ∧
      ((rd_T38 l0 b).f0 = 3 ∧ (rd_T38 l0 b).f1 = c ∧ g = true ∧ t' = t ∧ l0' = l0.set b.toNat ⟨0, (rd_T38 l0 b).f1, (rd_T38 l0 b).f2 + 1⟩ ∧ l1' = s3 ∧ fl' = (s4 || decide ((rd_T38 l0 b).f2 + 1 = t)) ∨ g = false ∧ t' = t ∧ l0' = l0 ∧ l1' = s3 ∧ fl' = s4) := by
  unfold blameP at h
  by_cases hk : knownP t l0 l1 fl [⟨1, a⟩, ⟨0, b⟩] = 0
  · rw [if_pos hk] at h
    obtain ⟨_, ⟨m, rfl, hm⟩, n, rfl, hn⟩ := known_two hk
    by_cases h1 : c < 1 ∨ (rd_T38 l0 (n : Int)).f1 < c
    · rw [if_pos h1] at h
      simp only [Prod.mk.injEq] at h
      exact absurd h.2.2.2.2.2 (by decide)
    rw [if_neg h1] at h
    obtain ⟨s1, s2, s3, s4, s5, hh⟩ : ∃ s1 s2 s3 s4 s5, holdP t l0 l1 fl (m : Int) = (s1, s2, s3, s4, s5) := ⟨_, _, _, _, _, rfl⟩
    have hsame := @hold_same t l0 l1 fl (m : Int)
    rw [hh] at h hsame
    simp only at h hsame
    by_cases h5 : s5 = 0
    · rw [if_pos h5] at h
      obtain ⟨rfl, rfl⟩ := hsame h5
      subst h5
      refine ⟨m, n, s2, s3, s4, rfl, hm, rfl, hn, by omega, by omega, hh, rfl, ?_⟩
      unfold chargeP at h
      by_cases hg : (rd_T38 s2 (n : Int)).f0 = 3 ∧ (rd_T38 s2 (n : Int)).f1 = c
      · rw [if_pos hg] at h
        simp only [Prod.mk.injEq] at h
        obtain ⟨rfl, rfl, rfl, rfl, rfl, _⟩ := h
        exact .inl ⟨hg.1, hg.2, rfl, rfl, rfl, rfl, rfl⟩
      · rw [if_neg hg] at h
        simp only [Prod.mk.injEq] at h
        obtain ⟨rfl, rfl, rfl, rfl, rfl, _⟩ := h
        exact .inr ⟨rfl, rfl, rfl, rfl, rfl⟩
    · rw [if_neg h5] at h
      simp only [Prod.mk.injEq] at h
      exact absurd h.2.2.2.2.2 h5
  · rw [if_neg hk] at h
    simp only [Prod.mk.injEq] at h
    exact absurd h.2.2.2.2.2 hk
theorem place0 (m n : Nat) : place m 0 (n : Int) = n := by unfold place; rw [if_pos rfl, Int.toNat_natCast]
/-- Behind a Blame that goes well. -/
theorem INV.blame {t : Int} {l0 l1 : List S38} {fl : Bool} {m r : Nat} {bg ch : Nat → Bool} {s c : Int} {rt mt : Nat} {a t' : Int} {l0' l1' : List S38} {fl' g : Bool} (h : INV t l0 l1 fl m r bg ch s c) (hb : blameP t l0 l1 fl rt mt a = (t', l0', l1', fl', g, 0)) (tk tb : Int) :
    t' = t ∧ Stays 3 tk tb mt rt fl l0 l1 l0' l1' fl' ∧ (g = false → fl' = false ∧ INV t l0' l1' fl' m r bg ch s c) ∧
    (g = true → ∃ n : Nat, a = n ∧ 1 ≤ n ∧ n ≤ 16 ∧ bg (mt * 17 + n) = true ∧ ch (mt * 17 + n) = false ∧ INV t l0' l1' fl' m r bg (upd ch (mt * 17 + n)) s (c + 1)) := by
  obtain ⟨rt', mt', s2, s3, s4, e1, hrt, e2, hmt, ha1, ha2, hh, rfl, hcase⟩ := blame_form hb
  obtain rfl : rt' = rt := by omega
  obtain rfl : mt' = mt := by omega
  unfold holdP at hh
  obtain ⟨_, rfl, hI, x, hx0, hx1, hx2, hx3⟩ := h.still (v := 2) (k := 1) (b := (rt' : Int)) (.inr ⟨rfl, by decide⟩) hh
  obtain ⟨_, hf, _, _, _, _, _⟩ := end_form hh
  subst hf
  rw [if_neg (by decide), Int.toNat_natCast] at hx1
  have hst : stP s2 l1 1 (rt' : Int) = l1[rt'] := by unfold stP; rw [if_neg (by decide), rd38 l1 rt' hrt]
  rw [hst] at hx2
  have hreds : ∀ (k : Nat) (h : k < l1.length) (h' : k < s3.length), ¬ ((3 : Int) ≠ 3 ∧ tk = 1 ∧ tb = k ∨ (3 : Int) = 3 ∧ rt' = k) → s3[k] = l1[k] := fun k h h' hne => by
    subst hx1
    rw [List.getElem_set_ne (fun e => hne (.inr ⟨rfl, e⟩))]
  have hrdone : ∀ (k : Nat) (h : k < l1.length) (h' : k < s3.length), (l1[k]).f0 = 3 → s3[k] = l1[k] := fun k h h' q => by
    subst hx1
    by_cases e : rt' = k
    · subst e; rw [hx2] at q; exact absurd q (by decide)
    · rw [List.getElem_set_ne e]
  have hrd : rd_T38 s2 (mt' : Int) = s2[mt'] := rd38 s2 mt' hmt
  rcases hcase with ⟨h3, h4, rfl, rfl, rfl, rfl, rfl⟩ | ⟨rfl, rfl, rfl, rfl, rfl⟩
  · rw [hrd] at h3 h4 ⊢
    have hch := hI.charge (k := 0) (b := (mt' : Int)) (.inl ⟨rfl, mt', rfl, hmt⟩) (.inr (by unfold stP; rw [if_pos rfl, hrd]; exact h3))
    obtain ⟨n, q1, q2, q3, q4, q5, q6⟩ := hch
    have hs0 : stP s2 l1' 0 (mt' : Int) = s2[mt'] := by unfold stP; rw [if_pos rfl, hrd]
    rw [hs0] at q1 q6
    rw [place0] at q4 q5 q6
    rw [if_pos rfl, if_pos rfl] at q6
    refine ⟨rfl, ⟨fun k h h' hne => ?_, fun k h h' g1 g2 => ?_, hreds, hrdone, fun h => by cases h⟩, (fun h => by cases h), fun _ => ⟨n, by omega, q2, q3, q4, q5, ?_⟩⟩
    · simp only [Int.toNat_natCast]
      rw [List.getElem_set_ne (fun e => hne (.inr ⟨rfl, e⟩))]
    · simp only [Int.toNat_natCast] at g2 ⊢
      by_cases e : mt' = k
      · subst e
        rw [List.getElem_set_self]
        exact ⟨trivial, rfl⟩
      · rw [List.getElem_set_ne e] at g2
        exact absurd g1 g2
    · rw [Bool.false_or]
      exact q6
  · exact ⟨rfl, ⟨fun _ _ _ _ => rfl, fun k h h' g1 g2 => absurd g1 g2, hreds, hrdone, fun h => by cases h⟩, fun _ => ⟨rfl, hI⟩, fun h => by cases h⟩
/-- sums of small numbers -/
theorem sumL_le (f : S38 → Int) (b : Int) (hb : 0 ≤ b) : ∀ (L : List S38), (∀ x ∈ L, 0 ≤ f x ∧ f x ≤ b) → 0 ≤ sumL f L ∧ sumL f L ≤ b * L.length
  | [], _ => by simp [sumL]
  | x :: L, h => by
    have h1 := h x (List.mem_cons_self ..)
    have h2 := sumL_le f b hb L (fun y m => h y (List.mem_cons_of_mem _ m))
    have e : sumL f (x :: L) = f x + sumL f L := by unfold sumL; rw [List.map_cons, List.sum_cons]
    have e2 : b * ((x :: L).length : Int) = b * L.length + b := by rw [List.length_cons]; push_cast; rw [Int.mul_add, Int.mul_one]
    rw [e, e2]
    omega
theorem INV.small {t : Int} {l0 l1 : List S38} {fl : Bool} {m r : Nat} {bg ch : Nat → Bool} {s c : Int} (h : INV t l0 l1 fl m r bg ch s c) (hm : m ≤ 6) (hr : r ≤ 6) : 0 ≤ s ∧ s ≤ 1000 ∧ 0 ≤ c ∧ c ≤ 1000 ∧ s ≤ m + r + c := by
  obtain ⟨q1, q2, q3, q4, q5, q6, q7, q8, q9⟩ := (check_iff _ _ _ _).1 h.check
  have hall : ∀ x ∈ l0 ++ l1, (x.f0 = 0 → x.f1 = x.f2) ∧ (x.f0 ≠ 0 → x.f1 = x.f2 + 1) ∧ 0 ≤ x.f2 ∧ x.f2 ≤ t := fun x mx => by
    rcases List.mem_append.1 mx with mx | mx
    · obtain ⟨g1, g2, g3, g4, g5, g6, g7⟩ := good_state (q6 x mx); exact ⟨g3, g4, g5, g6⟩
    · obtain ⟨g1, g2, g3, g4, g5, g6, g7⟩ := good_state (q7 x mx); exact ⟨g3, g4, g5, g6⟩
  have hlen : (l0 ++ l1).length = m + r := by rw [List.length_append, h.n0, h.n1]
  have h1 := sumL_le S38.f1 17 (by decide) (l0 ++ l1) (fun x mx => by
    have := hall x mx
    by_cases e : x.f0 = 0
    · have := this.1 e; omega
    · have := this.2.1 e; omega)
  have h2 := sumL_le S38.f2 16 (by decide) (l0 ++ l1) (fun x mx => by have := hall x mx; omega)
  have h3 : ∀ L : List S38, (∀ x ∈ L, x.f1 ≤ x.f2 + 1) → sumL S38.f1 L ≤ L.length + sumL S38.f2 L := by
    intro L
    induction L with
    | nil => intro _; simp [sumL]
    | cons x L ih =>
      intro hh
      have a1 := hh x (List.mem_cons_self ..)
      have a2 := ih (fun y my => hh y (List.mem_cons_of_mem _ my))
      simp only [sumL, List.map_cons, List.sum_cons, List.length_cons] at a2 ⊢
      push_cast
      omega
  have h4 := h3 (l0 ++ l1) (fun x mx => by
    have := hall x mx
    by_cases e : x.f0 = 0
    · have := this.1 e; omega
    · have := this.2.1 e; omega)
  rw [← h.starts] at h1 h4
  rw [← h.charges] at h2 h4
  rw [hlen] at h1 h2 h4
  push_cast at h1 h2 h4
  omega
end Go.Proofs.YtponmfnegdlppaaDoor.P

end
section
/- made: whatever the move, in one contract. -/
namespace Go.Proofs.YtponmfnegdlppaaDoor.P
open Go.RowKit Go.Proofs.YtponmfnegdlppaaDoorW.PrintWords Go.Proofs.YtponmfnegdlppaaDoorW.PrintLast Go.Proofs.YtponmfnegdlppaaDoorW.PrintMore
set_option linter.unusedVariables false

def Made (w0 : World) (B : List Bx) (gN : Nat) (t : Int) (m r : Nat) (o tk tb : Int) (mt rt : Nat) (A0 : Option Addr) (p0 : Nat) (l0 : List S38) (A1 : Option Addr) (p1 : Nat) (l1 : List S38) (fl : Bool) (e : Ending) (W' : World) : Prop :=
  ∃ (A0' A1' : Option Addr) (p0' p1' : Nat) (l0' l1' : List S38) (fl' : Bool) (bg' ch' : Nat → Bool) (s' c' : Int), e = .returned (.tuple #[.agg #[.int .i64 t, .slice A0' l0'.length p0', .slice A1' l1'.length p1', .bool fl'], .bool true]) ∧ INV t l0' l1' fl' m r bg' ch' s' c' ∧ Stays o tk tb mt rt fl l0 l1 l0' l1' fl' ∧
    Env w0 (⟨gN, ncells bg' ch' s' c', 56⟩ :: B) (⟨1, k38, 38, .slice A0' l0'.length p0', l0'⟩ :: ⟨2, k38, 38, .slice A1' l1'.length p1', l1'⟩ :: []) W' ∧
    Env w0 (⟨gN, ncells bg' ch' s' c', 56⟩ :: B) (⟨1, k38, 38, .slice A0 l0.length p0, l0⟩ :: ⟨2, k38, 38, .slice A1 l1.length p1, l1⟩ :: []) W'
theorem Env.back12 {w0 W : World} {B : List Bx} {e : Nat} {v v' : Value} {l l' : List S38} (h : Env w0 B (⟨3, k38, e, v, l⟩ :: ⟨4, k38, e, v', l'⟩ :: []) W) : Env w0 B (⟨1, k38, e, v, l⟩ :: ⟨2, k38, e, v', l'⟩ :: []) W :=
  h.rename (fun x => swapc 1 3 (swapc 2 4 x)) (fun a b q => swapc_inj 2 4 _ _ (swapc_inj 1 3 _ _ q)) rfl
section
variable {w0 W : World} {B : List Bx} {gN : Nat} {bg ch : Nat → Bool} {s c t : Int} {A0 A1 : Option Addr} {p0 p1 : Nat} {l0 l1 : List S38} {fl : Bool} {m r : Nat}
theorem Made.of_same {o tk tb : Int} {mt rt : Nat} (hI : INV t l0 l1 fl m r bg ch s c) {e : Ending} {W' : World} (h : e = .returned (.tuple #[.agg #[.int .i64 t, .slice A0 l0.length p0, .slice A1 l1.length p1, .bool fl], .bool true]) ∧ Env w0 (⟨gN, ncells bg ch s c, 56⟩ :: B) (⟨1, k38, 38, .slice A0 l0.length p0, l0⟩ :: ⟨2, k38, 38, .slice A1 l1.length p1, l1⟩ :: []) W') :
    Made w0 B gN t m r o tk tb mt rt A0 p0 l0 A1 p1 l1 fl e W' := ⟨_, _, _, _, _, _, _, _, _, _, _, h.1, hI, Stays.same .., h.2, h.2⟩
theorem Made.of_new {o tk tb : Int} {mt rt : Nat} {l0' l1' : List S38} {fl' : Bool} {bg' ch' : Nat → Bool} {s' c' : Int} (hI : INV t l0' l1' fl' m r bg' ch' s' c') (hS : Stays o tk tb mt rt fl l0 l1 l0' l1' fl') {e : Ending} {W' : World}
    (h : ∃ (P0 P1 : Option Addr) (q0_ q1_ : Nat), e = .returned (.tuple #[.agg #[.int .i64 t, .slice P0 l0'.length q0_, .slice P1 l1'.length q1_, .bool fl'], .bool true]) ∧ Env w0 (⟨gN, ncells bg' ch' s' c', 56⟩ :: B) (⟨3, k38, 38, .slice P0 l0'.length q0_, l0'⟩ :: ⟨4, k38, 38, .slice P1 l1'.length q1_, l1'⟩ :: ⟨1, k38, 38, .slice A0 l0.length p0, l0⟩ :: ⟨2, k38, 38, .slice A1 l1.length p1, l1⟩ :: []) W') :
    Made w0 B gN t m r o tk tb mt rt A0 p0 l0 A1 p1 l1 fl e W' := by
  obtain ⟨P0, P1, q0_, q1_, he, hE⟩ := h
  exact ⟨_, _, _, _, _, _, _, _, _, _, _, he, hI, hS, (hE.sub (List.Sublist.refl _) (.cons_cons _ (.cons_cons _ (List.nil_sublist _)))).back12, hE.lose1.lose1⟩
theorem made_any {x0 x1 x2 x3 : Int} {o tk tb : Int} {mt rt : Nat} (h : Env w0 (⟨gN, ncells bg ch s c, 56⟩ :: B) (⟨1, k38, 38, .slice A0 l0.length p0, l0⟩ :: ⟨2, k38, 38, .slice A1 l1.length p1, l1⟩ :: []) W) (hT : Tab w0) (hI : INV t l0 l1 fl m r bg ch s c) (hm : m ≤ 6) (hr1 : 1 ≤ r) (hr : r ≤ 6)
    (ho : fewP x0 0 3 = o) (htk : pickK x1 m r = tk) (htb : pickB x1 m r = tb) (hmt : 1 ≤ m → fewP x2 0 ((m : Int) - 1) = mt) (hrt : fewP x1 0 ((r : Int) - 1) = rt) :
    Calls Tryd.prog 35 #[.pointer (some ⟨gN, 0, none⟩), .agg #[.int .i64 t, .slice A0 l0.length p0, .slice A1 l1.length p1, .bool fl], .agg #[.int .i64 x0, .int .i64 x1, .int .i64 x2, .int .i64 x3], .int .i64 m, .int .i64 r] W (Made w0 B gN t m r o tk tb mt rt A0 p0 l0 A1 p1 l1 fl) := by
  have hl0 : l0.length ≤ 6000000000000 := by have := hI.n0; omega
  have hl1 : l1.length ≤ 6000000000000 := by have := hI.n1; omega
  have hp := picked_eq x1 m r hm hr1 hr
  have hin := pick_in x1 m r hr1
  rw [htk, htb] at hp hin
  obtain ⟨hnu, hk12⟩ := number_eq tk tb m r hm hr hin
  have hTk : (tk = 0 ∧ ∃ n : Nat, tb = n ∧ n < l0.length) ∨ (tk = 1 ∧ ∃ n : Nat, tb = n ∧ n < l1.length) := by rw [hI.n0, hI.n1]; exact hin
  have hfo := few_eq x0 0 3 (by omega) (by omega) (by omega)
  have hoi := fewP_in x0 0 3 (by omega)
  rw [ho] at hfo hoi
  have hsm := hI.small hm hr
  by_cases o0 : o = 0
  · subst o0
    obtain ⟨r1, r2, r3, r4, r5, r6, r7, hb⟩ : ∃ r1 r2 r3 r4 r5 r6 r7, beginP t l0 l1 fl tk tb = (r1, r2, r3, r4, r5, r6, r7) := ⟨_, _, _, _, _, _, _, rfl⟩
    by_cases e : r7 = 0
    · subst e
      obtain ⟨e1, n, e2, hn1, hn2, hbg, hp1, hc1, hJ, x, ex0, ex1, hx1, hx0, hy3, hy1, hf⟩ := hI.begin hb
      subst e1 e2 hf
      have hfl : fl = false := (begin_form hb).2.1
      subst hfl
      have hst : stP r2 r3 tk tb = x := by
        rw [ex0, ex1]
        unfold stP
        rcases hTk with ⟨rfl, n', rfl, hn'⟩ | ⟨rfl, n', rfl, hn'⟩
        · rw [if_pos rfl, if_pos rfl, Int.toNat_natCast, rd38 _ n' (by rw [List.length_set]; exact hn'), List.getElem_set_self]
        · rw [if_neg (show ¬ (1 : Int) = 0 by decide), if_neg (show ¬ (1 : Int) = 0 by decide), Int.toNat_natCast, rd38 _ n' (by rw [List.length_set]; exact hn'), List.getElem_set_self]
      have hTk' : (tk = 0 ∧ ∃ n : Nat, tb = n ∧ n < r2.length) ∨ (tk = 1 ∧ ∃ n : Nat, tb = n ∧ n < r3.length) := by rw [hJ.n0, hJ.n1]; exact hin
      have hat := attempt_eq r1 r2 r3 false tk tb hTk'
      rw [hst, hx1] at hat
      refine (made_begin_ok h hT hl0 hl1 hp hnu hfo hb (sized_eq r1 r2 r3 false m r hJ.n0 hJ.n1) hat (by omega) hn1 hn2 hbg hp1 hc1 ⟨hsm.1, by omega⟩ rfl).mono ?_
      intro e W' q
      exact Made.of_new hJ (by rw [ex0, ex1]; exact Stays.one (by decide) hTk x hy3) q
    · refine (made_begin_err h hT hl0 hl1 hp hnu hfo hb e).mono ?_
      intro e W' q
      exact Made.of_same hI q
  by_cases o1 : o = 1
  · subst o1
    obtain ⟨r1, r2, r3, r4, r5, hb⟩ : ∃ r1 r2 r3 r4 r5, doneP t l0 l1 fl tk tb = (r1, r2, r3, r4, r5) := ⟨_, _, _, _, _, rfl⟩
    by_cases e : r5 = 0
    · subst e
      obtain ⟨e1, hf, hJ, x, ex0, ex1, hy, hx⟩ := hI.still (.inl rfl) hb
      subst e1 hf
      have hfl : fl = false := (end_form hb).2.1
      subst hfl
      refine (made_done_ok h hT hl0 hl1 hp hnu hfo hb (sized_eq r1 r2 r3 false m r hJ.n0 hJ.n1)).mono ?_
      intro e W' q
      exact Made.of_new hJ (by rw [ex0, ex1]; exact Stays.one (by decide) hTk x (by omega)) q
    · refine (made_done_err h hT hl0 hl1 hp hnu hfo hb e).mono ?_
      intro e W' q
      exact Made.of_same hI q
  by_cases o2 : o = 2
  · subst o2
    obtain ⟨r1, r2, r3, r4, r5, hb⟩ : ∃ r1 r2 r3 r4 r5, diedP t l0 l1 fl tk tb = (r1, r2, r3, r4, r5) := ⟨_, _, _, _, _, rfl⟩
    by_cases e : r5 = 0
    · subst e
      obtain ⟨hk, hfl, e1, hy, hf, ex0, ex1⟩ := end_form hb
      subst e1 hfl
      obtain ⟨n, e2, hn1, hn2, hbg, hch, hJ⟩ := hI.charge hTk (.inl hy)
      rw [← ex0, ← ex1] at hJ
      have hf' : r4 = decide ((stP l0 l1 tk tb).f2 + 1 = r1) := by rw [hf, Bool.false_or]
      rw [← hf'] at hJ
      have hat := attempt_eq r1 l0 l1 false tk tb hTk
      rw [e2] at hat
      refine (made_died_ok h hT hl0 hl1 hp hnu hfo hb (sized_eq r1 r2 r3 r4 m r hJ.n0 hJ.n1) hat (by omega) hn1 hn2 hbg hch ⟨hsm.2.2.1, by omega⟩).mono ?_
      intro e W' q
      exact Made.of_new hJ (by rw [ex0, ex1]; exact Stays.one (by decide) hTk _ (by omega)) q
    · refine (made_died_err h hT hl0 hl1 hp hnu hfo hb e).mono ?_
      intro e W' q
      exact Made.of_same hI q
  have o3 : o = 3 := by omega
  subst o3
  by_cases hm0 : m = 0
  · refine (made_blame_none h hT hl0 hl1 hp hnu hfo (by simp; omega)).mono ?_
    intro e W' q
    exact Made.of_same hI q
  have hm1 : 1 ≤ m := by omega
  have hfm := few_eq x2 0 ((m : Int) - 1) (by omega) (by omega) (by omega)
  have hfr := few_eq x1 0 ((r : Int) - 1) (by omega) (by omega) (by omega)
  have hfx := few_eq x3 1 4 (by omega) (by omega) (by omega)
  have hmi := fewP_in x2 0 ((m : Int) - 1) (by omega)
  have hxi := fewP_in x3 1 4 (by omega)
  rw [hmt hm1] at hfm hmi
  rw [hrt] at hfr
  obtain ⟨n, hn⟩ : ∃ n : Nat, fewP x3 1 4 = n := ⟨(fewP x3 1 4).toNat, by omega⟩
  rw [hn] at hfx hxi
  obtain ⟨r1, r2, r3, r4, r5, r6, hb⟩ : ∃ r1 r2 r3 r4 r5 r6, blameP t l0 l1 fl rt mt n = (r1, r2, r3, r4, r5, r6) := ⟨_, _, _, _, _, _, rfl⟩
  by_cases e : r6 = 0
  · subst e
    obtain ⟨e1, hS, hf, hg⟩ := hI.blame hb tk tb
    subst e1
    cases r5 with
    | false =>
      obtain ⟨e4, hJ⟩ := hf rfl
      refine (made_blame_free h hT hl0 hl1 hp hnu hfo hm1 hm hr1 hr hfm hfr hfx hb (sized_eq r1 r2 r3 r4 m r hJ.n0 hJ.n1)).mono ?_
      intro e W' q
      exact Made.of_new hJ hS q
    | true =>
      obtain ⟨n', e2, hn1, hn2, hbg, hch, hJ⟩ := hg rfl
      obtain rfl : n = n' := by omega
      refine (made_blame_charge h hT hl0 hl1 hp hnu hfo hm1 hm hr1 hr hfm hfr hfx hb (sized_eq r1 r2 r3 r4 m r hJ.n0 hJ.n1) (by omega) hn1 hn2 hbg hch ⟨hsm.2.2.1, by omega⟩).mono ?_
      intro e W' q
      exact Made.of_new hJ hS q
  · have h5 : r5 = false := by
      unfold blameP chargeP at hb
      repeat' split at hb
      all_goals simp only [Prod.mk.injEq] at hb
      all_goals first | exact hb.2.2.2.2.1.symm | exact absurd hb.2.2.2.2.2.symm e
    refine (made_blame_err h hT hl0 hl1 hp hnu hfo hm1 hm hr1 hr hfm hfr hfx hb e h5).mono ?_
    intro e W' q
    exact Made.of_same hI q
end
end Go.Proofs.YtponmfnegdlppaaDoor.P

end
section
-- Written by a program of this session (wip/tools/hprint.py, over the kit's printer), not by hand. Lean checks it.
namespace Go.Proofs.YtponmfnegdlppaaDoor.P
open Go.RowKit Go.Proofs.YtponmfnegdlppaaDoorW.PrintWords Go.Proofs.YtponmfnegdlppaaDoorW.PrintLast Go.Proofs.YtponmfnegdlppaaDoorW.PrintMore
attribute [local go_sem] max2_int min2_int max_two min_two max_three min_three max_four min_four
set_option linter.unusedVariables false
set_option linter.unusedSimpArgs false

/-! ### ledger_New: function 33 -/
def ledger_New.f (a0 : Int) (a1 : Int) (a2 : Int) : Option (Int × (List (S38)) × (List (S38)) × Bool × Int) := if a0 < 0 then (some (0, ([] : List (S38)), ([] : List (S38)), false, 3)) else (if a0 > 256 then (some (0, ([] : List (S38)), ([] : List (S38)), false, 3)) else (if a1 < 1 then (some (0, ([] : List (S38)), ([] : List (S38)), false, 3)) else (if a1 > 65535 then (some (0, ([] : List (S38)), ([] : List (S38)), false, 3)) else (if a2 < 1 then (some (0, ([] : List (S38)), ([] : List (S38)), false, 3)) else (if a2 > 16 then (some (0, ([] : List (S38)), ([] : List (S38)), false, 3)) else (if 0 ≤ a0 then (if (a0 : Int).toNat ≤ 11728124029610 then (if 0 ≤ a1 then (if (a1 : Int).toNat ≤ 11728124029610 then (some (a2, (List.replicate (a0 : Int).toNat z38), (List.replicate (a1 : Int).toNat z38), false, 0)) else (none)) else (none)) else (none)) else (none)))))))
def ledger_New.T3 : Bool × List (List Nat × List Nat) := (true, [([], []), ([], []), ([1, 1], [1]), ([], []), ([3, 3], [3]), ([0, 2, 4], [0, 2, 4]), ([5, 0, 1, 2, 3, 4, 5], [5]), ([6, 0, 1, 2, 3, 4, 5, 6], [])])
def ledger_New.B3 : List Nat := [0, 0, 2, 0, 8, 31, 63, 127]
theorem ledger_New.tab3 : rtab .any (opsOf Tryd.f33 3) = ledger_New.T3 := by kernel_rfl
theorem ledger_New.bits3 : waitsOk ledger_New.T3.2 ledger_New.B3 = true := by kernel_rfl
set_option maxHeartbeats 8000000 in
set_option maxRecDepth 100000 in
theorem ledger_New.calls (a0 : Int) (a1 : Int) (a2 : Int) (r1 : Int) (r2 : List (S38)) (r3 : List (S38)) (r4 : Bool) (r5 : Int) (w : World) (h : ledger_New.f a0 a1 a2 = some (r1, r2, r3, r4, r5)) :
    Calls Tryd.prog 33 #[.int .i64 a0, .int .i64 a1, .int .i64 a2] w fun e w' => ∃ v1_ v2_ : Value, e = .returned (.tuple #[.agg #[.int .i64 r1, v1_, v2_, .bool r4], .int .i64 r5]) ∧ Kd.R k38 38 w' w.heap.size (fun k_ => some k_ ≠ (v2_ : Value).ownBlock) v1_ r2 ∧ Kd.R k38 38 w' w.heap.size (fun k_ => some k_ ≠ (v1_ : Value).ownBlock) v2_ r3 ∧ Below w.heap.size w w' := by
  have hu24 := Tryd.underlying24
  have HB := Aside0.mk (Below.refl w.heap.size w)
  have H : (if a0 < 0 then (some (0, ([] : List (S38)), ([] : List (S38)), false, 3)) else (if a0 > 256 then (some (0, ([] : List (S38)), ([] : List (S38)), false, 3)) else (if a1 < 1 then (some (0, ([] : List (S38)), ([] : List (S38)), false, 3)) else (if a1 > 65535 then (some (0, ([] : List (S38)), ([] : List (S38)), false, 3)) else (if a2 < 1 then (some (0, ([] : List (S38)), ([] : List (S38)), false, 3)) else (if a2 > 16 then (some (0, ([] : List (S38)), ([] : List (S38)), false, 3)) else (if 0 ≤ a0 then (if (a0 : Int).toNat ≤ 11728124029610 then (if 0 ≤ a1 then (if (a1 : Int).toNat ≤ 11728124029610 then (some (a2, (List.replicate (a0 : Int).toNat z38), (List.replicate (a1 : Int).toNat z38), false, 0)) else (none)) else (none)) else (none)) else (none)))))))) = some (r1, r2, r3, r4, r5) := h
  clear h
  by_cases c4 : a0 < 0
  · rw [if_pos c4] at H
    have c4b0 : decide (a0 < 0) = true := decide_eq_true c4
    clear c4
    simp only [Option.some.injEq, Prod.mk.injEq] at H
    obtain ⟨rfl, rfl, rfl, rfl, rfl⟩ := H
    go_enter Tryd.func33, Tryd.ntmps33
    go_wp2_with (first | ((with_reducible refine gate_dst (N := 6) rfl ?_); refine box_event ?hg (N := 6) ?hd (cs := #[.int .i64 0, .slice none 0 0, .slice none 0 0, .bool false]) (t := 24) ?hr ?_; (case hd => rfl); (case hg => rfl); (case hr => first | (go_simp; done) | (go_simp; rfl)); intro gb358 hg w5 hbox hb; have n0_ := Aside0.mk (below_step (by repeat (first | (with_reducible first | exact HB.out | apply below_alloc | apply pw_below_drewN | apply below_drew1) | exact HB.out)) hb); have n1_ := Aside0.mk (hbox); have n2_ := Aside0.mk ((by rw [hg]; exact (below_size (by repeat (first | (with_reducible first | exact HB.out | apply below_alloc | apply pw_below_drewN | apply below_drew1) | exact HB.out))) : w.heap.size ≤ gb358)); have n3_ := Aside0.mk ((by rw [hg]; exact (below_size (by repeat (first | (with_reducible first | exact HB.out | apply below_alloc | apply pw_below_drewN | apply below_drew1) | exact HB.out))) : w.heap.size ≤ gb358)); clear HB; have HB := n0_; have BK358 := n1_; have GW358 := n2_; have GE358 := n3_; clear n0_ n1_ n2_ n3_; clear hb hbox hg; have hcz6_0 : w5.cell? ⟨gb358, 0, none⟩ = some (.int .i64 0) := (blk_cell BK358.out 0).trans rfl; have hcz6_1 : w5.cell? ⟨gb358, 1, none⟩ = some (.slice none 0 0) := (blk_cell BK358.out 1).trans rfl; have hcz6_2 : w5.cell? ⟨gb358, 2, none⟩ = some (.slice none 0 0) := (blk_cell BK358.out 2).trans rfl; have hcz6_3 : w5.cell? ⟨gb358, 3, none⟩ = some (.bool false) := (blk_cell BK358.out 3).trans rfl; have hfz6_0 := blk_frozen BK358.out 0; have hfz6_1 := blk_frozen BK358.out 1; have hfz6_2 := blk_frozen BK358.out 2; have hfz6_3 := blk_frozen BK358.out 3))
    refine bodyPost_ret (results_ct rfl _ _ gb358 24 #[.int .i64 0, .slice none 0 0, .slice none 0 0, .bool false] (0, 0) _ rfl (by (with_reducible repeat (first | refine blk_drewN ?_ _ | refine blk_drew ?_ | refine blk_alloc ?_ _)); refine blk_put (cs := #[.int .i64 0, .slice none 0 0, .slice none 0 0, .bool false]) ?_ 3 _ rfl; (with_reducible repeat (first | refine blk_drewN ?_ _ | refine blk_drew ?_ | refine blk_alloc ?_ _)); refine blk_put (cs := #[.int .i64 0, .slice none 0 0, .slice none 0 0, .bool false]) ?_ 2 _ rfl; (with_reducible repeat (first | refine blk_drewN ?_ _ | refine blk_drew ?_ | refine blk_alloc ?_ _)); refine blk_put (cs := #[.int .i64 0, .slice none 0 0, .slice none 0 0, .bool false]) ?_ 1 _ rfl; (with_reducible repeat (first | refine blk_drewN ?_ _ | refine blk_drew ?_ | refine blk_alloc ?_ _)); refine blk_put (cs := #[.int .i64 0, .slice none 0 0, .slice none 0 0, .bool false]) ?_ 0 _ rfl; (with_reducible repeat (first | refine blk_drewN ?_ _ | refine blk_drew ?_ | refine blk_alloc ?_ _)); exact BK358.out) Tryd.underlying24 rfl (by kernel_rfl)) rfl ?_
    exact ⟨_, _, by first | rfl | (simp [errW_none, errW_some] <;> rfl) | (simp [*, errW_none, errW_some] <;> rfl), by first | exact Kd.R_nil _ _ _ _ _ | exact Kd.N_nil _ _ _ _ _ | exact Kd.V_nil _ _ _ _ _ | exact Kd.Q_nil _ _ _ _ _ | exact Kd.S_nil _ _ _ _ _, by first | exact Kd.R_nil _ _ _ _ _ | exact Kd.N_nil _ _ _ _ _ | exact Kd.V_nil _ _ _ _ _ | exact Kd.Q_nil _ _ _ _ _ | exact Kd.S_nil _ _ _ _ _, by repeat (first | (with_reducible first | exact HB.out | apply below_alloc | apply pw_below_drewN | apply below_drew1 | refine below_set ?_ GE358.out) | exact HB.out)⟩
  · rw [if_neg c4] at H
    have c4b0 : decide (a0 < 0) = false := decide_eq_false c4
    clear c4
    by_cases c7 : a0 > 256
    · rw [if_pos c7] at H
      have c7b0 : decide (256 < a0) = true := decide_eq_true c7
      clear c7
      simp only [Option.some.injEq, Prod.mk.injEq] at H
      obtain ⟨rfl, rfl, rfl, rfl, rfl⟩ := H
      go_enter Tryd.func33, Tryd.ntmps33
      go_wp2_with (first | ((with_reducible refine gate_dst (N := 6) rfl ?_); refine box_event ?hg (N := 6) ?hd (cs := #[.int .i64 0, .slice none 0 0, .slice none 0 0, .bool false]) (t := 24) ?hr ?_; (case hd => rfl); (case hg => rfl); (case hr => first | (go_simp; done) | (go_simp; rfl)); intro gb358 hg w8 hbox hb; have n0_ := Aside0.mk (below_step (by repeat (first | (with_reducible first | exact HB.out | apply below_alloc | apply pw_below_drewN | apply below_drew1) | exact HB.out)) hb); have n1_ := Aside0.mk (hbox); have n2_ := Aside0.mk ((by rw [hg]; exact (below_size (by repeat (first | (with_reducible first | exact HB.out | apply below_alloc | apply pw_below_drewN | apply below_drew1) | exact HB.out))) : w.heap.size ≤ gb358)); have n3_ := Aside0.mk ((by rw [hg]; exact (below_size (by repeat (first | (with_reducible first | exact HB.out | apply below_alloc | apply pw_below_drewN | apply below_drew1) | exact HB.out))) : w.heap.size ≤ gb358)); clear HB; have HB := n0_; have BK358 := n1_; have GW358 := n2_; have GE358 := n3_; clear n0_ n1_ n2_ n3_; clear hb hbox hg; have hcz9_0 : w8.cell? ⟨gb358, 0, none⟩ = some (.int .i64 0) := (blk_cell BK358.out 0).trans rfl; have hcz9_1 : w8.cell? ⟨gb358, 1, none⟩ = some (.slice none 0 0) := (blk_cell BK358.out 1).trans rfl; have hcz9_2 : w8.cell? ⟨gb358, 2, none⟩ = some (.slice none 0 0) := (blk_cell BK358.out 2).trans rfl; have hcz9_3 : w8.cell? ⟨gb358, 3, none⟩ = some (.bool false) := (blk_cell BK358.out 3).trans rfl; have hfz9_0 := blk_frozen BK358.out 0; have hfz9_1 := blk_frozen BK358.out 1; have hfz9_2 := blk_frozen BK358.out 2; have hfz9_3 := blk_frozen BK358.out 3))
      refine bodyPost_ret (results_ct rfl _ _ gb358 24 #[.int .i64 0, .slice none 0 0, .slice none 0 0, .bool false] (0, 0) _ rfl (by (with_reducible repeat (first | refine blk_drewN ?_ _ | refine blk_drew ?_ | refine blk_alloc ?_ _)); refine blk_put (cs := #[.int .i64 0, .slice none 0 0, .slice none 0 0, .bool false]) ?_ 3 _ rfl; (with_reducible repeat (first | refine blk_drewN ?_ _ | refine blk_drew ?_ | refine blk_alloc ?_ _)); refine blk_put (cs := #[.int .i64 0, .slice none 0 0, .slice none 0 0, .bool false]) ?_ 2 _ rfl; (with_reducible repeat (first | refine blk_drewN ?_ _ | refine blk_drew ?_ | refine blk_alloc ?_ _)); refine blk_put (cs := #[.int .i64 0, .slice none 0 0, .slice none 0 0, .bool false]) ?_ 1 _ rfl; (with_reducible repeat (first | refine blk_drewN ?_ _ | refine blk_drew ?_ | refine blk_alloc ?_ _)); refine blk_put (cs := #[.int .i64 0, .slice none 0 0, .slice none 0 0, .bool false]) ?_ 0 _ rfl; (with_reducible repeat (first | refine blk_drewN ?_ _ | refine blk_drew ?_ | refine blk_alloc ?_ _)); exact BK358.out) Tryd.underlying24 rfl (by kernel_rfl)) rfl ?_
      exact ⟨_, _, by first | rfl | (simp [errW_none, errW_some] <;> rfl) | (simp [*, errW_none, errW_some] <;> rfl), by first | exact Kd.R_nil _ _ _ _ _ | exact Kd.N_nil _ _ _ _ _ | exact Kd.V_nil _ _ _ _ _ | exact Kd.Q_nil _ _ _ _ _ | exact Kd.S_nil _ _ _ _ _, by first | exact Kd.R_nil _ _ _ _ _ | exact Kd.N_nil _ _ _ _ _ | exact Kd.V_nil _ _ _ _ _ | exact Kd.Q_nil _ _ _ _ _ | exact Kd.S_nil _ _ _ _ _, by repeat (first | (with_reducible first | exact HB.out | apply below_alloc | apply pw_below_drewN | apply below_drew1 | refine below_set ?_ GE358.out) | exact HB.out)⟩
    · rw [if_neg c7] at H
      have c7b0 : decide (256 < a0) = false := decide_eq_false c7
      clear c7
      by_cases c10 : a1 < 1
      · rw [if_pos c10] at H
        have c10b0 : decide (a1 < 1) = true := decide_eq_true c10
        clear c10
        simp only [Option.some.injEq, Prod.mk.injEq] at H
        obtain ⟨rfl, rfl, rfl, rfl, rfl⟩ := H
        go_enter Tryd.func33, Tryd.ntmps33
        go_wp2_with (first | ((with_reducible refine gate_dst (N := 6) rfl ?_); refine box_event ?hg (N := 6) ?hd (cs := #[.int .i64 0, .slice none 0 0, .slice none 0 0, .bool false]) (t := 24) ?hr ?_; (case hd => rfl); (case hg => rfl); (case hr => first | (go_simp; done) | (go_simp; rfl)); intro gb358 hg w11 hbox hb; have n0_ := Aside0.mk (below_step (by repeat (first | (with_reducible first | exact HB.out | apply below_alloc | apply pw_below_drewN | apply below_drew1) | exact HB.out)) hb); have n1_ := Aside0.mk (hbox); have n2_ := Aside0.mk ((by rw [hg]; exact (below_size (by repeat (first | (with_reducible first | exact HB.out | apply below_alloc | apply pw_below_drewN | apply below_drew1) | exact HB.out))) : w.heap.size ≤ gb358)); have n3_ := Aside0.mk ((by rw [hg]; exact (below_size (by repeat (first | (with_reducible first | exact HB.out | apply below_alloc | apply pw_below_drewN | apply below_drew1) | exact HB.out))) : w.heap.size ≤ gb358)); clear HB; have HB := n0_; have BK358 := n1_; have GW358 := n2_; have GE358 := n3_; clear n0_ n1_ n2_ n3_; clear hb hbox hg; have hcz12_0 : w11.cell? ⟨gb358, 0, none⟩ = some (.int .i64 0) := (blk_cell BK358.out 0).trans rfl; have hcz12_1 : w11.cell? ⟨gb358, 1, none⟩ = some (.slice none 0 0) := (blk_cell BK358.out 1).trans rfl; have hcz12_2 : w11.cell? ⟨gb358, 2, none⟩ = some (.slice none 0 0) := (blk_cell BK358.out 2).trans rfl; have hcz12_3 : w11.cell? ⟨gb358, 3, none⟩ = some (.bool false) := (blk_cell BK358.out 3).trans rfl; have hfz12_0 := blk_frozen BK358.out 0; have hfz12_1 := blk_frozen BK358.out 1; have hfz12_2 := blk_frozen BK358.out 2; have hfz12_3 := blk_frozen BK358.out 3))
        refine bodyPost_ret (results_ct rfl _ _ gb358 24 #[.int .i64 0, .slice none 0 0, .slice none 0 0, .bool false] (0, 0) _ rfl (by (with_reducible repeat (first | refine blk_drewN ?_ _ | refine blk_drew ?_ | refine blk_alloc ?_ _)); refine blk_put (cs := #[.int .i64 0, .slice none 0 0, .slice none 0 0, .bool false]) ?_ 3 _ rfl; (with_reducible repeat (first | refine blk_drewN ?_ _ | refine blk_drew ?_ | refine blk_alloc ?_ _)); refine blk_put (cs := #[.int .i64 0, .slice none 0 0, .slice none 0 0, .bool false]) ?_ 2 _ rfl; (with_reducible repeat (first | refine blk_drewN ?_ _ | refine blk_drew ?_ | refine blk_alloc ?_ _)); refine blk_put (cs := #[.int .i64 0, .slice none 0 0, .slice none 0 0, .bool false]) ?_ 1 _ rfl; (with_reducible repeat (first | refine blk_drewN ?_ _ | refine blk_drew ?_ | refine blk_alloc ?_ _)); refine blk_put (cs := #[.int .i64 0, .slice none 0 0, .slice none 0 0, .bool false]) ?_ 0 _ rfl; (with_reducible repeat (first | refine blk_drewN ?_ _ | refine blk_drew ?_ | refine blk_alloc ?_ _)); exact BK358.out) Tryd.underlying24 rfl (by kernel_rfl)) rfl ?_
        exact ⟨_, _, by first | rfl | (simp [errW_none, errW_some] <;> rfl) | (simp [*, errW_none, errW_some] <;> rfl), by first | exact Kd.R_nil _ _ _ _ _ | exact Kd.N_nil _ _ _ _ _ | exact Kd.V_nil _ _ _ _ _ | exact Kd.Q_nil _ _ _ _ _ | exact Kd.S_nil _ _ _ _ _, by first | exact Kd.R_nil _ _ _ _ _ | exact Kd.N_nil _ _ _ _ _ | exact Kd.V_nil _ _ _ _ _ | exact Kd.Q_nil _ _ _ _ _ | exact Kd.S_nil _ _ _ _ _, by repeat (first | (with_reducible first | exact HB.out | apply below_alloc | apply pw_below_drewN | apply below_drew1 | refine below_set ?_ GE358.out) | exact HB.out)⟩
      · rw [if_neg c10] at H
        have c10b0 : decide (a1 < 1) = false := decide_eq_false c10
        clear c10
        by_cases c13 : a1 > 65535
        · rw [if_pos c13] at H
          have c13b0 : decide (65535 < a1) = true := decide_eq_true c13
          clear c13
          simp only [Option.some.injEq, Prod.mk.injEq] at H
          obtain ⟨rfl, rfl, rfl, rfl, rfl⟩ := H
          go_enter Tryd.func33, Tryd.ntmps33
          go_wp2_with (first | ((with_reducible refine gate_dst (N := 6) rfl ?_); refine box_event ?hg (N := 6) ?hd (cs := #[.int .i64 0, .slice none 0 0, .slice none 0 0, .bool false]) (t := 24) ?hr ?_; (case hd => rfl); (case hg => rfl); (case hr => first | (go_simp; done) | (go_simp; rfl)); intro gb358 hg w14 hbox hb; have n0_ := Aside0.mk (below_step (by repeat (first | (with_reducible first | exact HB.out | apply below_alloc | apply pw_below_drewN | apply below_drew1) | exact HB.out)) hb); have n1_ := Aside0.mk (hbox); have n2_ := Aside0.mk ((by rw [hg]; exact (below_size (by repeat (first | (with_reducible first | exact HB.out | apply below_alloc | apply pw_below_drewN | apply below_drew1) | exact HB.out))) : w.heap.size ≤ gb358)); have n3_ := Aside0.mk ((by rw [hg]; exact (below_size (by repeat (first | (with_reducible first | exact HB.out | apply below_alloc | apply pw_below_drewN | apply below_drew1) | exact HB.out))) : w.heap.size ≤ gb358)); clear HB; have HB := n0_; have BK358 := n1_; have GW358 := n2_; have GE358 := n3_; clear n0_ n1_ n2_ n3_; clear hb hbox hg; have hcz15_0 : w14.cell? ⟨gb358, 0, none⟩ = some (.int .i64 0) := (blk_cell BK358.out 0).trans rfl; have hcz15_1 : w14.cell? ⟨gb358, 1, none⟩ = some (.slice none 0 0) := (blk_cell BK358.out 1).trans rfl; have hcz15_2 : w14.cell? ⟨gb358, 2, none⟩ = some (.slice none 0 0) := (blk_cell BK358.out 2).trans rfl; have hcz15_3 : w14.cell? ⟨gb358, 3, none⟩ = some (.bool false) := (blk_cell BK358.out 3).trans rfl; have hfz15_0 := blk_frozen BK358.out 0; have hfz15_1 := blk_frozen BK358.out 1; have hfz15_2 := blk_frozen BK358.out 2; have hfz15_3 := blk_frozen BK358.out 3))
          refine bodyPost_ret (results_ct rfl _ _ gb358 24 #[.int .i64 0, .slice none 0 0, .slice none 0 0, .bool false] (0, 0) _ rfl (by (with_reducible repeat (first | refine blk_drewN ?_ _ | refine blk_drew ?_ | refine blk_alloc ?_ _)); refine blk_put (cs := #[.int .i64 0, .slice none 0 0, .slice none 0 0, .bool false]) ?_ 3 _ rfl; (with_reducible repeat (first | refine blk_drewN ?_ _ | refine blk_drew ?_ | refine blk_alloc ?_ _)); refine blk_put (cs := #[.int .i64 0, .slice none 0 0, .slice none 0 0, .bool false]) ?_ 2 _ rfl; (with_reducible repeat (first | refine blk_drewN ?_ _ | refine blk_drew ?_ | refine blk_alloc ?_ _)); refine blk_put (cs := #[.int .i64 0, .slice none 0 0, .slice none 0 0, .bool false]) ?_ 1 _ rfl; (with_reducible repeat (first | refine blk_drewN ?_ _ | refine blk_drew ?_ | refine blk_alloc ?_ _)); refine blk_put (cs := #[.int .i64 0, .slice none 0 0, .slice none 0 0, .bool false]) ?_ 0 _ rfl; (with_reducible repeat (first | refine blk_drewN ?_ _ | refine blk_drew ?_ | refine blk_alloc ?_ _)); exact BK358.out) Tryd.underlying24 rfl (by kernel_rfl)) rfl ?_
          exact ⟨_, _, by first | rfl | (simp [errW_none, errW_some] <;> rfl) | (simp [*, errW_none, errW_some] <;> rfl), by first | exact Kd.R_nil _ _ _ _ _ | exact Kd.N_nil _ _ _ _ _ | exact Kd.V_nil _ _ _ _ _ | exact Kd.Q_nil _ _ _ _ _ | exact Kd.S_nil _ _ _ _ _, by first | exact Kd.R_nil _ _ _ _ _ | exact Kd.N_nil _ _ _ _ _ | exact Kd.V_nil _ _ _ _ _ | exact Kd.Q_nil _ _ _ _ _ | exact Kd.S_nil _ _ _ _ _, by repeat (first | (with_reducible first | exact HB.out | apply below_alloc | apply pw_below_drewN | apply below_drew1 | refine below_set ?_ GE358.out) | exact HB.out)⟩
        · rw [if_neg c13] at H
          have c13b0 : decide (65535 < a1) = false := decide_eq_false c13
          clear c13
          by_cases c16 : a2 < 1
          · rw [if_pos c16] at H
            have c16b0 : decide (a2 < 1) = true := decide_eq_true c16
            clear c16
            simp only [Option.some.injEq, Prod.mk.injEq] at H
            obtain ⟨rfl, rfl, rfl, rfl, rfl⟩ := H
            go_enter Tryd.func33, Tryd.ntmps33
            go_wp2_with (first | ((with_reducible refine gate_dst (N := 6) rfl ?_); refine box_event ?hg (N := 6) ?hd (cs := #[.int .i64 0, .slice none 0 0, .slice none 0 0, .bool false]) (t := 24) ?hr ?_; (case hd => rfl); (case hg => rfl); (case hr => first | (go_simp; done) | (go_simp; rfl)); intro gb358 hg w17 hbox hb; have n0_ := Aside0.mk (below_step (by repeat (first | (with_reducible first | exact HB.out | apply below_alloc | apply pw_below_drewN | apply below_drew1) | exact HB.out)) hb); have n1_ := Aside0.mk (hbox); have n2_ := Aside0.mk ((by rw [hg]; exact (below_size (by repeat (first | (with_reducible first | exact HB.out | apply below_alloc | apply pw_below_drewN | apply below_drew1) | exact HB.out))) : w.heap.size ≤ gb358)); have n3_ := Aside0.mk ((by rw [hg]; exact (below_size (by repeat (first | (with_reducible first | exact HB.out | apply below_alloc | apply pw_below_drewN | apply below_drew1) | exact HB.out))) : w.heap.size ≤ gb358)); clear HB; have HB := n0_; have BK358 := n1_; have GW358 := n2_; have GE358 := n3_; clear n0_ n1_ n2_ n3_; clear hb hbox hg; have hcz18_0 : w17.cell? ⟨gb358, 0, none⟩ = some (.int .i64 0) := (blk_cell BK358.out 0).trans rfl; have hcz18_1 : w17.cell? ⟨gb358, 1, none⟩ = some (.slice none 0 0) := (blk_cell BK358.out 1).trans rfl; have hcz18_2 : w17.cell? ⟨gb358, 2, none⟩ = some (.slice none 0 0) := (blk_cell BK358.out 2).trans rfl; have hcz18_3 : w17.cell? ⟨gb358, 3, none⟩ = some (.bool false) := (blk_cell BK358.out 3).trans rfl; have hfz18_0 := blk_frozen BK358.out 0; have hfz18_1 := blk_frozen BK358.out 1; have hfz18_2 := blk_frozen BK358.out 2; have hfz18_3 := blk_frozen BK358.out 3))
            refine bodyPost_ret (results_ct rfl _ _ gb358 24 #[.int .i64 0, .slice none 0 0, .slice none 0 0, .bool false] (0, 0) _ rfl (by (with_reducible repeat (first | refine blk_drewN ?_ _ | refine blk_drew ?_ | refine blk_alloc ?_ _)); refine blk_put (cs := #[.int .i64 0, .slice none 0 0, .slice none 0 0, .bool false]) ?_ 3 _ rfl; (with_reducible repeat (first | refine blk_drewN ?_ _ | refine blk_drew ?_ | refine blk_alloc ?_ _)); refine blk_put (cs := #[.int .i64 0, .slice none 0 0, .slice none 0 0, .bool false]) ?_ 2 _ rfl; (with_reducible repeat (first | refine blk_drewN ?_ _ | refine blk_drew ?_ | refine blk_alloc ?_ _)); refine blk_put (cs := #[.int .i64 0, .slice none 0 0, .slice none 0 0, .bool false]) ?_ 1 _ rfl; (with_reducible repeat (first | refine blk_drewN ?_ _ | refine blk_drew ?_ | refine blk_alloc ?_ _)); refine blk_put (cs := #[.int .i64 0, .slice none 0 0, .slice none 0 0, .bool false]) ?_ 0 _ rfl; (with_reducible repeat (first | refine blk_drewN ?_ _ | refine blk_drew ?_ | refine blk_alloc ?_ _)); exact BK358.out) Tryd.underlying24 rfl (by kernel_rfl)) rfl ?_
            exact ⟨_, _, by first | rfl | (simp [errW_none, errW_some] <;> rfl) | (simp [*, errW_none, errW_some] <;> rfl), by first | exact Kd.R_nil _ _ _ _ _ | exact Kd.N_nil _ _ _ _ _ | exact Kd.V_nil _ _ _ _ _ | exact Kd.Q_nil _ _ _ _ _ | exact Kd.S_nil _ _ _ _ _, by first | exact Kd.R_nil _ _ _ _ _ | exact Kd.N_nil _ _ _ _ _ | exact Kd.V_nil _ _ _ _ _ | exact Kd.Q_nil _ _ _ _ _ | exact Kd.S_nil _ _ _ _ _, by repeat (first | (with_reducible first | exact HB.out | apply below_alloc | apply pw_below_drewN | apply below_drew1 | refine below_set ?_ GE358.out) | exact HB.out)⟩
          · rw [if_neg c16] at H
            have c16b0 : decide (a2 < 1) = false := decide_eq_false c16
            clear c16
            by_cases c19 : a2 > 16
            · rw [if_pos c19] at H
              have c19b0 : decide (16 < a2) = true := decide_eq_true c19
              clear c19
              simp only [Option.some.injEq, Prod.mk.injEq] at H
              obtain ⟨rfl, rfl, rfl, rfl, rfl⟩ := H
              go_enter Tryd.func33, Tryd.ntmps33
              go_wp2_with (first | ((with_reducible refine gate_dst (N := 6) rfl ?_); refine box_event ?hg (N := 6) ?hd (cs := #[.int .i64 0, .slice none 0 0, .slice none 0 0, .bool false]) (t := 24) ?hr ?_; (case hd => rfl); (case hg => rfl); (case hr => first | (go_simp; done) | (go_simp; rfl)); intro gb358 hg w20 hbox hb; have n0_ := Aside0.mk (below_step (by repeat (first | (with_reducible first | exact HB.out | apply below_alloc | apply pw_below_drewN | apply below_drew1) | exact HB.out)) hb); have n1_ := Aside0.mk (hbox); have n2_ := Aside0.mk ((by rw [hg]; exact (below_size (by repeat (first | (with_reducible first | exact HB.out | apply below_alloc | apply pw_below_drewN | apply below_drew1) | exact HB.out))) : w.heap.size ≤ gb358)); have n3_ := Aside0.mk ((by rw [hg]; exact (below_size (by repeat (first | (with_reducible first | exact HB.out | apply below_alloc | apply pw_below_drewN | apply below_drew1) | exact HB.out))) : w.heap.size ≤ gb358)); clear HB; have HB := n0_; have BK358 := n1_; have GW358 := n2_; have GE358 := n3_; clear n0_ n1_ n2_ n3_; clear hb hbox hg; have hcz21_0 : w20.cell? ⟨gb358, 0, none⟩ = some (.int .i64 0) := (blk_cell BK358.out 0).trans rfl; have hcz21_1 : w20.cell? ⟨gb358, 1, none⟩ = some (.slice none 0 0) := (blk_cell BK358.out 1).trans rfl; have hcz21_2 : w20.cell? ⟨gb358, 2, none⟩ = some (.slice none 0 0) := (blk_cell BK358.out 2).trans rfl; have hcz21_3 : w20.cell? ⟨gb358, 3, none⟩ = some (.bool false) := (blk_cell BK358.out 3).trans rfl; have hfz21_0 := blk_frozen BK358.out 0; have hfz21_1 := blk_frozen BK358.out 1; have hfz21_2 := blk_frozen BK358.out 2; have hfz21_3 := blk_frozen BK358.out 3))
              refine bodyPost_ret (results_ct rfl _ _ gb358 24 #[.int .i64 0, .slice none 0 0, .slice none 0 0, .bool false] (0, 0) _ rfl (by (with_reducible repeat (first | refine blk_drewN ?_ _ | refine blk_drew ?_ | refine blk_alloc ?_ _)); refine blk_put (cs := #[.int .i64 0, .slice none 0 0, .slice none 0 0, .bool false]) ?_ 3 _ rfl; (with_reducible repeat (first | refine blk_drewN ?_ _ | refine blk_drew ?_ | refine blk_alloc ?_ _)); refine blk_put (cs := #[.int .i64 0, .slice none 0 0, .slice none 0 0, .bool false]) ?_ 2 _ rfl; (with_reducible repeat (first | refine blk_drewN ?_ _ | refine blk_drew ?_ | refine blk_alloc ?_ _)); refine blk_put (cs := #[.int .i64 0, .slice none 0 0, .slice none 0 0, .bool false]) ?_ 1 _ rfl; (with_reducible repeat (first | refine blk_drewN ?_ _ | refine blk_drew ?_ | refine blk_alloc ?_ _)); refine blk_put (cs := #[.int .i64 0, .slice none 0 0, .slice none 0 0, .bool false]) ?_ 0 _ rfl; (with_reducible repeat (first | refine blk_drewN ?_ _ | refine blk_drew ?_ | refine blk_alloc ?_ _)); exact BK358.out) Tryd.underlying24 rfl (by kernel_rfl)) rfl ?_
              exact ⟨_, _, by first | rfl | (simp [errW_none, errW_some] <;> rfl) | (simp [*, errW_none, errW_some] <;> rfl), by first | exact Kd.R_nil _ _ _ _ _ | exact Kd.N_nil _ _ _ _ _ | exact Kd.V_nil _ _ _ _ _ | exact Kd.Q_nil _ _ _ _ _ | exact Kd.S_nil _ _ _ _ _, by first | exact Kd.R_nil _ _ _ _ _ | exact Kd.N_nil _ _ _ _ _ | exact Kd.V_nil _ _ _ _ _ | exact Kd.Q_nil _ _ _ _ _ | exact Kd.S_nil _ _ _ _ _, by repeat (first | (with_reducible first | exact HB.out | apply below_alloc | apply pw_below_drewN | apply below_drew1 | refine below_set ?_ GE358.out) | exact HB.out)⟩
            · rw [if_neg c19] at H
              have c19b0 : decide (16 < a2) = false := decide_eq_false c19
              clear c19
              by_cases c22 : 0 ≤ a0
              · rw [if_pos c22] at H
                have c22b0 := eq_true c22
                have c22b1 : decide (0 ≤ a0) = true := decide_eq_true c22
                clear c22
                by_cases c23 : (a0 : Int).toNat ≤ 11728124029610
                · rw [if_pos c23] at H
                  have c23b0 := eq_true c23
                  have c23b1 : decide ((a0 : Int).toNat ≤ 11728124029610) = true := decide_eq_true c23
                  clear c23
                  obtain ⟨y359, hy359⟩ : ∃ y_ : List (S38), y_ = (List.replicate (a0 : Int).toNat z38) := ⟨_, rfl⟩
                  replace H : (if 0 ≤ a1 then (if (a1 : Int).toNat ≤ 11728124029610 then (some (a2, y359, (List.replicate (a1 : Int).toNat z38), false, 0)) else (none)) else (none)) = some (r1, r2, r3, r4, r5) := by first | (rw [hy359]; with_reducible exact H) | (have H2_ := (Option.bind_some _ _).symm.trans H; rw [hy359]; with_reducible exact H2_) | (have H2_ := (Option.bind_some _ _).symm.trans H; with_reducible exact H2_) | with_reducible exact H | (rw [hy359]; exact H) | exact H
                  have Ny359 := Aside0.mk hy359
                  clear hy359
                  by_cases c24 : 0 ≤ a1
                  · rw [if_pos c24] at H
                    have c24b0 := eq_true c24
                    have c24b1 : decide (0 ≤ a1) = true := decide_eq_true c24
                    clear c24
                    by_cases c25 : (a1 : Int).toNat ≤ 11728124029610
                    · rw [if_pos c25] at H
                      have c25b0 := eq_true c25
                      have c25b1 : decide ((a1 : Int).toNat ≤ 11728124029610) = true := decide_eq_true c25
                      clear c25
                      obtain ⟨y362, hy362⟩ : ∃ y_ : List (S38), y_ = (List.replicate (a1 : Int).toNat z38) := ⟨_, rfl⟩
                      replace H : (some (a2, y359, y362, false, 0)) = some (r1, r2, r3, r4, r5) := by first | (rw [hy362]; with_reducible exact H) | (have H2_ := (Option.bind_some _ _).symm.trans H; rw [hy362]; with_reducible exact H2_) | (have H2_ := (Option.bind_some _ _).symm.trans H; with_reducible exact H2_) | with_reducible exact H | (rw [hy362]; exact H) | exact H
                      have Ny362 := Aside0.mk hy362
                      clear hy362
                      simp only [Option.some.injEq, Prod.mk.injEq] at H
                      obtain ⟨rfl, rfl, rfl, rfl, rfl⟩ := H
                      go_enter Tryd.func33, Tryd.ntmps33
                      try go_wp2_with (first | ((with_reducible refine gate_dst (N := 6) rfl ?_); refine box_event ?hg (N := 6) ?hd (cs := #[.int .i64 0, .slice none 0 0, .slice none 0 0, .bool false]) (t := 24) ?hr ?_; (case hd => rfl); (case hg => rfl); (case hr => first | (go_simp; done) | (go_simp; rfl)); intro gb358 hg w26 hbox hb; have n0_ := Aside0.mk (below_step (by repeat (first | (with_reducible first | exact HB.out | apply below_alloc | apply pw_below_drewN | apply below_drew1) | exact HB.out)) hb); have n1_ := Aside0.mk (hbox); have n2_ := Aside0.mk ((by rw [hg]; exact (below_size (by repeat (first | (with_reducible first | exact HB.out | apply below_alloc | apply pw_below_drewN | apply below_drew1) | exact HB.out))) : w.heap.size ≤ gb358)); have n3_ := Aside0.mk ((by rw [hg]; exact (below_size (by repeat (first | (with_reducible first | exact HB.out | apply below_alloc | apply pw_below_drewN | apply below_drew1) | exact HB.out))) : w.heap.size ≤ gb358)); clear HB; have HB := n0_; have BK358 := n1_; have GW358 := n2_; have GE358 := n3_; clear n0_ n1_ n2_ n3_; clear hb hbox hg))
                      have n0_ := Aside0.mk (blk_drew BK358.out)
                      have n1_ := Aside0.mk (below_drew1 HB.out)
                      clear BK358
                      clear HB
                      have BK358 := n0_
                      have HB := n1_
                      clear n0_ n1_
                      refine start_ (n := 8) (S := fun w' => True) (ds := []) #[false, false, false, false, false, false, false, false] (by kernel_rfl) rfl rfl trivial (fun hHeld => ?_); refine with_tabW ledger_New.tab3 ledger_New.bits3 (fun HT_ HW_ => ?_)
                      generalize w26.drew = w27 at BK358 HB hHeld ⊢
                      refine pure_ (i := 0) (N := some 31) (v := ?_) (a' := ?_) #[true, false, false, false, false, false, false, false] rfl rfl (any_of HT_.out (by kernel_rfl)) (fun _ _ _ h => h) (Or.inl ⟨by rfl, ?_⟩) ?_ ?_
                      rotate_left
                      · intro w'
                        go_simp
                        with_reducible rfl
                      rotate_left
                      · simp only [Act.put, List.setIfInBounds_toArray, List.set_cons_zero, List.set_cons_succ, i64_w, i32_w]
                        rfl
                      refine pure_ (i := 1) (N := some 32) (v := ?_) (a' := ?_) #[true, true, false, false, false, false, false, false] rfl rfl (any_of HT_.out (by kernel_rfl)) (fun _ _ _ h => h) (Or.inl ⟨by rfl, ?_⟩) ?_ ?_
                      rotate_left
                      · intro w'
                        go_simp
                        with_reducible rfl
                      rotate_left
                      · simp only [Act.put, List.setIfInBounds_toArray, List.set_cons_zero, List.set_cons_succ, i64_w, i32_w]
                        rfl
                      refine pure_ (i := 3) (N := some 34) (v := ?_) (a' := ?_) #[true, true, false, true, false, false, false, false] rfl rfl (any_of HT_.out (by kernel_rfl)) (fun _ _ _ h => h) (Or.inl ⟨by rfl, ?_⟩) ?_ ?_
                      rotate_left
                      · intro w'
                        go_simp
                        with_reducible rfl
                      rotate_left
                      · simp only [Act.put, List.setIfInBounds_toArray, List.set_cons_zero, List.set_cons_succ, i64_w, i32_w]
                        rfl
                      refine join_ (σ := Value × Value) 3 #[true, true, true, true, true, false, false, false] (fun s_ => [(33, s_.1), (35, s_.2)]) (fun s_ w' => (Kd.R k38 38 w' w.heap.size (fun k_ => some k_ ≠ (s_.2 : Value).ownBlock) s_.1 y359) ∧ (Kd.R k38 38 w' w.heap.size (fun k_ => some k_ ≠ (s_.1 : Value).ownBlock) s_.2 y362) ∧ (w'.heap[gb358]? = some (.cells #[.int .i64 0, .slice none 0 0, .slice none 0 0, .bool false] 24 (0, 0))) ∧ (Below w.heap.size w w')) ?_ ?_
                      rotate_left
                      · intro hCont
                        refine two_ (i := 2) (j := 4) (Ni := some 33) (Nj := some 35) #[true, true, true, true, false, false, false, false] #[true, true, false, true, true, false, false, false] rfl rfl rfl rfl (two_of HT_.out (by kernel_rfl)) (by decide) (by decide) (fun K hK => ?_) (fun K hK => ?_)
                        · skip
                          refine Kd.R_make_step k38 _ 38 (by rfl) (N := 33) rfl 22 _ _ rfl a0 rfl rfl Tryd.underlying22 (.agg #[(.int .i64 0), (.int .i64 0), (.int .i64 0)]) 24 info38 rfl (by decide) (by omega) z38 (ok := fun _ => True) (okp := fun _ => True) (k38_mkM _ _ _ z38 ) (fun _ hk => hk) trivial (of_decide_eq_true (by first | (with_reducible assumption) | assumption)) (Nat.le_trans (Nat.mul_le_mul_right _ (of_decide_eq_true (by first | (with_reducible assumption) | assumption) : a0.toNat ≤ 11728124029610)) (by omega)) (Below.refl _ _) (Nat.le_refl _) ?_
                          intro v360 w28 ho29 hb hg_ hnew_
                          clear hg_ hnew_
                          (first | rw [← Ny359.out] at ho29 | (simp only [Int.reduceToNat] at ho29; rw [← Ny359.out] at ho29))
                          have n0_ := Aside0.mk (Kd.R_lower ho29 (below_size (by repeat (first | (with_reducible first | exact HB.out | apply below_alloc | apply pw_below_drewN | apply below_drew1 | refine below_set ?_ GE358.out) | exact HB.out))))
                          have n1_ := Aside0.mk (blk_below (g := gb358) (o := .cells #[.int .i64 0, .slice none 0 0, .slice none 0 0, .bool false] 24 (0, 0)) (by (with_reducible repeat (first | refine blk_drewN ?_ _ | refine blk_drew ?_ | refine blk_alloc ?_ _)); exact BK358.out) hb)
                          have n2_ := Aside0.mk (below_step (by repeat (first | (with_reducible first | exact HB.out | apply below_alloc | apply pw_below_drewN | apply below_drew1 | refine below_set ?_ GE358.out) | exact HB.out)) hb)
                          clear BK358
                          clear HB
                          have HO361 := n0_
                          have BK358 := n1_
                          have HB := n2_
                          clear n0_ n1_ n2_
                          clear hb ho29
                          refine hK.out _ _ trivial (fun hHeld => ?_)
                          clear hK K
                          refine norm_ (a' := ?_) ?_ ?_
                          rotate_left
                          · show Act.put _ (some 33) _ = _
                            simp only [Act.put, List.setIfInBounds_toArray, List.set_cons_zero, List.set_cons_succ, i64_w, i32_w]
                            rfl
                          refine one_ (i := 4) (N := some 35) #[true, true, true, true, true, false, false, false] rfl rfl (one_of HT_.out (by kernel_rfl)) (by decide) (fun K hK => ?_)
                          refine Kd.R_make_step k38 _ 38 (by rfl) (N := 35) rfl 22 _ _ rfl a1 rfl rfl Tryd.underlying22 (.agg #[(.int .i64 0), (.int .i64 0), (.int .i64 0)]) 24 info38 rfl (by decide) (by omega) z38 (ok := fun _ => True) (okp := fun _ => True) (k38_mkM _ _ _ z38 ) (fun _ hk => hk) trivial (of_decide_eq_true (by first | (with_reducible assumption) | assumption)) (Nat.le_trans (Nat.mul_le_mul_right _ (of_decide_eq_true (by first | (with_reducible assumption) | assumption) : a1.toNat ≤ 11728124029610)) (by omega)) (Below.refl _ _) (Nat.le_refl _) ?_
                          intro v363 w30 ho31 hb hg_ hnew_
                          clear hg_ hnew_
                          (first | rw [← Ny362.out] at ho31 | (simp only [Int.reduceToNat] at ho31; rw [← Ny362.out] at ho31))
                          have n0_ := Aside0.mk (Kd.R_elder' (by (with_reducible repeat (first | apply Kd.R_alloc | apply Kd.R_drewN | apply Kd.R_drew)); exact HO361.out) (Kd.R_base ho31) hb)
                          have n1_ := Aside0.mk (Kd.R_lower (Kd.R_new' ho31 (Kd.R_lt (by (with_reducible repeat (first | apply Kd.R_alloc | apply Kd.R_drewN | apply Kd.R_drew)); exact HO361.out))) (below_size (by repeat (first | (with_reducible first | exact HB.out | apply below_alloc | apply pw_below_drewN | apply below_drew1 | refine below_set ?_ GE358.out) | exact HB.out))))
                          have n2_ := Aside0.mk (blk_below (g := gb358) (o := .cells #[.int .i64 0, .slice none 0 0, .slice none 0 0, .bool false] 24 (0, 0)) (by (with_reducible repeat (first | refine blk_drewN ?_ _ | refine blk_drew ?_ | refine blk_alloc ?_ _)); exact BK358.out) hb)
                          have n3_ := Aside0.mk (below_step (by repeat (first | (with_reducible first | exact HB.out | apply below_alloc | apply pw_below_drewN | apply below_drew1 | refine below_set ?_ GE358.out) | exact HB.out)) hb)
                          clear HO361
                          clear BK358
                          clear HB
                          have HO361 := n0_
                          have HO364 := n1_
                          have BK358 := n2_
                          have HB := n3_
                          clear n0_ n1_ n2_ n3_
                          clear hb ho31
                          obtain ⟨Ao32, co32, eo32⟩ := Kd.R_slice HO364.out
                          (first | subst eo32 | (injection eo32 with f1_ f2_ f3_; have f4_ := f1_.symm; have f5_ := f3_.symm; clear f1_ f2_ f3_; subst f4_; subst f5_))
                          obtain ⟨Ao33, co33, eo33⟩ := Kd.R_slice HO361.out
                          (first | subst eo33 | (injection eo33 with f1_ f2_ f3_; have f4_ := f1_.symm; have f5_ := f3_.symm; clear f1_ f2_ f3_; subst f4_; subst f5_))
                          refine hK.out _ _ trivial (fun hHeld => ?_)
                          clear hK K
                          refine norm_ (a' := ?_) ?_ ?_
                          rotate_left
                          · show Act.put _ (some 35) _ = _
                            simp only [Act.put, List.setIfInBounds_toArray, List.set_cons_zero, List.set_cons_succ, i64_w, i32_w]
                            rfl
                          exact norm_ (by simp only [putAll, Act.put, List.setIfInBounds_toArray, List.set_cons_zero, List.set_cons_succ]) (hCont (.slice Ao33 y359.length co33, .slice Ao32 y362.length co32) _ ⟨(by (with_reducible repeat (first | apply Kd.R_alloc | apply Kd.R_drewN | apply Kd.R_drew)); exact Kd.R_mono HO361.out (fun _ hk => hk.2)), (by (with_reducible repeat (first | apply Kd.R_alloc | apply Kd.R_drewN | apply Kd.R_drew)); exact Kd.R_mono HO364.out (fun _ hk => hk.2)), (by (with_reducible repeat (first | refine blk_drewN ?_ _ | refine blk_drew ?_ | refine blk_alloc ?_ _)); exact BK358.out), (by repeat (first | (with_reducible first | exact HB.out | apply below_alloc | apply pw_below_drewN | apply below_drew1 | refine below_set ?_ GE358.out) | exact HB.out))⟩)
                        · skip
                          refine Kd.R_make_step k38 _ 38 (by rfl) (N := 35) rfl 22 _ _ rfl a1 rfl rfl Tryd.underlying22 (.agg #[(.int .i64 0), (.int .i64 0), (.int .i64 0)]) 24 info38 rfl (by decide) (by omega) z38 (ok := fun _ => True) (okp := fun _ => True) (k38_mkM _ _ _ z38 ) (fun _ hk => hk) trivial (of_decide_eq_true (by first | (with_reducible assumption) | assumption)) (Nat.le_trans (Nat.mul_le_mul_right _ (of_decide_eq_true (by first | (with_reducible assumption) | assumption) : a1.toNat ≤ 11728124029610)) (by omega)) (Below.refl _ _) (Nat.le_refl _) ?_
                          intro v363 w28 ho29 hb hg_ hnew_
                          clear hg_ hnew_
                          (first | rw [← Ny362.out] at ho29 | (simp only [Int.reduceToNat] at ho29; rw [← Ny362.out] at ho29))
                          have n0_ := Aside0.mk (Kd.R_lower ho29 (below_size (by repeat (first | (with_reducible first | exact HB.out | apply below_alloc | apply pw_below_drewN | apply below_drew1 | refine below_set ?_ GE358.out) | exact HB.out))))
                          have n1_ := Aside0.mk (blk_below (g := gb358) (o := .cells #[.int .i64 0, .slice none 0 0, .slice none 0 0, .bool false] 24 (0, 0)) (by (with_reducible repeat (first | refine blk_drewN ?_ _ | refine blk_drew ?_ | refine blk_alloc ?_ _)); exact BK358.out) hb)
                          have n2_ := Aside0.mk (below_step (by repeat (first | (with_reducible first | exact HB.out | apply below_alloc | apply pw_below_drewN | apply below_drew1 | refine below_set ?_ GE358.out) | exact HB.out)) hb)
                          clear BK358
                          clear HB
                          have HO364 := n0_
                          have BK358 := n1_
                          have HB := n2_
                          clear n0_ n1_ n2_
                          clear hb ho29
                          refine hK.out _ _ trivial (fun hHeld => ?_)
                          clear hK K
                          refine norm_ (a' := ?_) ?_ ?_
                          rotate_left
                          · show Act.put _ (some 35) _ = _
                            simp only [Act.put, List.setIfInBounds_toArray, List.set_cons_zero, List.set_cons_succ, i64_w, i32_w]
                            rfl
                          refine one_ (i := 2) (N := some 33) #[true, true, true, true, true, false, false, false] rfl rfl (one_of HT_.out (by kernel_rfl)) (by decide) (fun K hK => ?_)
                          refine Kd.R_make_step k38 _ 38 (by rfl) (N := 33) rfl 22 _ _ rfl a0 rfl rfl Tryd.underlying22 (.agg #[(.int .i64 0), (.int .i64 0), (.int .i64 0)]) 24 info38 rfl (by decide) (by omega) z38 (ok := fun _ => True) (okp := fun _ => True) (k38_mkM _ _ _ z38 ) (fun _ hk => hk) trivial (of_decide_eq_true (by first | (with_reducible assumption) | assumption)) (Nat.le_trans (Nat.mul_le_mul_right _ (of_decide_eq_true (by first | (with_reducible assumption) | assumption) : a0.toNat ≤ 11728124029610)) (by omega)) (Below.refl _ _) (Nat.le_refl _) ?_
                          intro v360 w30 ho31 hb hg_ hnew_
                          clear hg_ hnew_
                          (first | rw [← Ny359.out] at ho31 | (simp only [Int.reduceToNat] at ho31; rw [← Ny359.out] at ho31))
                          have n0_ := Aside0.mk (Kd.R_elder' (by (with_reducible repeat (first | apply Kd.R_alloc | apply Kd.R_drewN | apply Kd.R_drew)); exact HO364.out) (Kd.R_base ho31) hb)
                          have n1_ := Aside0.mk (Kd.R_lower (Kd.R_new' ho31 (Kd.R_lt (by (with_reducible repeat (first | apply Kd.R_alloc | apply Kd.R_drewN | apply Kd.R_drew)); exact HO364.out))) (below_size (by repeat (first | (with_reducible first | exact HB.out | apply below_alloc | apply pw_below_drewN | apply below_drew1 | refine below_set ?_ GE358.out) | exact HB.out))))
                          have n2_ := Aside0.mk (blk_below (g := gb358) (o := .cells #[.int .i64 0, .slice none 0 0, .slice none 0 0, .bool false] 24 (0, 0)) (by (with_reducible repeat (first | refine blk_drewN ?_ _ | refine blk_drew ?_ | refine blk_alloc ?_ _)); exact BK358.out) hb)
                          have n3_ := Aside0.mk (below_step (by repeat (first | (with_reducible first | exact HB.out | apply below_alloc | apply pw_below_drewN | apply below_drew1 | refine below_set ?_ GE358.out) | exact HB.out)) hb)
                          clear HO364
                          clear BK358
                          clear HB
                          have HO364 := n0_
                          have HO361 := n1_
                          have BK358 := n2_
                          have HB := n3_
                          clear n0_ n1_ n2_ n3_
                          clear hb ho31
                          obtain ⟨Ao32, co32, eo32⟩ := Kd.R_slice HO364.out
                          (first | subst eo32 | (injection eo32 with f1_ f2_ f3_; have f4_ := f1_.symm; have f5_ := f3_.symm; clear f1_ f2_ f3_; subst f4_; subst f5_))
                          obtain ⟨Ao33, co33, eo33⟩ := Kd.R_slice HO361.out
                          (first | subst eo33 | (injection eo33 with f1_ f2_ f3_; have f4_ := f1_.symm; have f5_ := f3_.symm; clear f1_ f2_ f3_; subst f4_; subst f5_))
                          refine hK.out _ _ trivial (fun hHeld => ?_)
                          clear hK K
                          refine norm_ (a' := ?_) ?_ ?_
                          rotate_left
                          · show Act.put _ (some 33) _ = _
                            simp only [Act.put, List.setIfInBounds_toArray, List.set_cons_zero, List.set_cons_succ, i64_w, i32_w]
                            rfl
                          exact norm_ (by simp only [putAll, Act.put, List.setIfInBounds_toArray, List.set_cons_zero, List.set_cons_succ]) (hCont (.slice Ao33 y359.length co33, .slice Ao32 y362.length co32) _ ⟨(by (with_reducible repeat (first | apply Kd.R_alloc | apply Kd.R_drewN | apply Kd.R_drew)); exact Kd.R_mono HO361.out (fun _ hk => hk.2)), (by (with_reducible repeat (first | apply Kd.R_alloc | apply Kd.R_drewN | apply Kd.R_drew)); exact Kd.R_mono HO364.out (fun _ hk => hk.2)), (by (with_reducible repeat (first | refine blk_drewN ?_ _ | refine blk_drew ?_ | refine blk_alloc ?_ _)); exact BK358.out), (by repeat (first | (with_reducible first | exact HB.out | apply below_alloc | apply pw_below_drewN | apply below_drew1 | refine below_set ?_ GE358.out) | exact HB.out))⟩)
                      rintro ⟨v360, v363⟩ w34 ⟨h0_, h1_, h2_, h3_⟩
                      have n0_ : Aside0 (Kd.R k38 38 w34 w.heap.size (fun k_ => some k_ ≠ (v363 : Value).ownBlock) v360 y359) := ⟨h0_⟩
                      have n1_ : Aside0 (Kd.R k38 38 w34 w.heap.size (fun k_ => some k_ ≠ (v360 : Value).ownBlock) v363 y362) := ⟨h1_⟩
                      have n2_ : Aside0 (w34.heap[gb358]? = some (.cells #[.int .i64 0, .slice none 0 0, .slice none 0 0, .bool false] 24 (0, 0))) := ⟨h2_⟩
                      have n3_ : Aside0 (Below w.heap.size w w34) := ⟨h3_⟩
                      clear BK358
                      clear HB
                      clear h0_ h1_ h2_ h3_
                      have HO361 := n0_
                      have HO364 := n1_
                      have BK358 := n2_
                      have HB := n3_
                      clear n0_ n1_ n2_ n3_
                      have hHeld := trivial
                      obtain ⟨Ao35, co35, eo35⟩ := Kd.R_slice HO364.out
                      (first | subst eo35 | (injection eo35 with f1_ f2_ f3_; have f4_ := f1_.symm; have f5_ := f3_.symm; clear f1_ f2_ f3_; subst f4_; subst f5_))
                      obtain ⟨Ao36, co36, eo36⟩ := Kd.R_slice HO361.out
                      (first | subst eo36 | (injection eo36 with f1_ f2_ f3_; have f4_ := f1_.symm; have f5_ := f3_.symm; clear f1_ f2_ f3_; subst f4_; subst f5_))
                      refine norm_ (a' := ?_) ?_ ?_
                      rotate_left
                      · simp only [putAll, Act.put, List.setIfInBounds_toArray, List.set_cons_zero, List.set_cons_succ]
                        rfl
                      refine pure_ (i := 5) (N := some 36) (v := ?_) (a' := ?_) #[true, true, true, true, true, true, false, false] rfl rfl (any_of HT_.out (by kernel_rfl)) (fun _ _ _ h => h) (Or.inl ⟨by rfl, ?_⟩) ?_ ?_
                      rotate_left
                      · intro w'
                        go_simp
                        with_reducible rfl
                      rotate_left
                      · simp only [Act.put, List.setIfInBounds_toArray, List.set_cons_zero, List.set_cons_succ, i64_w, i32_w]
                        rfl
                      refine one_ (i := 6) (N := none) #[true, true, true, true, true, true, true, false] rfl rfl (one_of HT_.out (by kernel_rfl)) (by decide) (fun K hK => ?_)
                      have hs37 : w34.cell? ⟨gb358, 0, none⟩ = some (.int .i64 0) := (blk_cell BK358.out 0).trans rfl
                      have hfs37 := blk_frozen BK358.out 0
                      have hs38 : w34.cell? ⟨gb358, 1, none⟩ = some (.slice none 0 0) := (blk_cell BK358.out 1).trans rfl
                      have hfs38 := blk_frozen BK358.out 1
                      have hs39 : w34.cell? ⟨gb358, 2, none⟩ = some (.slice none 0 0) := (blk_cell BK358.out 2).trans rfl
                      have hfs39 := blk_frozen BK358.out 2
                      have hs40 : w34.cell? ⟨gb358, 3, none⟩ = some (.bool false) := (blk_cell BK358.out 3).trans rfl
                      have hfs40 := blk_frozen BK358.out 3
                      refine skip_ (w1 := ?_) (by rfl) rfl ?_ ?_
                      rotate_left
                      · go_simp
                        rfl
                      refine hK.out _ _ trivial (fun hHeld => ?_)
                      clear hK K
                      refine pure_ (i := 7) (N := some 7) (v := ?_) (a' := ?_) #[true, true, true, true, true, true, true, true] rfl rfl (any_of HT_.out (by kernel_rfl)) (fun _ _ _ h => h) (Or.inl ⟨by rfl, ?_⟩) ?_ ?_
                      rotate_left
                      · intro w'
                        go_simp
                        with_reducible rfl
                      rotate_left
                      · simp only [Act.put, List.setIfInBounds_toArray, List.set_cons_zero, List.set_cons_succ, i64_w, i32_w]
                        rfl
                      refine done_ (done_of HT_.out (by kernel_rfl)) ?_
                      try go_wp2
                      refine bodyPost_ret (results_ct rfl _ _ gb358 24 #[.int .i64 a2, .slice Ao36 y359.length co36, .slice Ao35 y362.length co35, .bool false] (0, 0) _ rfl (by (with_reducible repeat (first | refine blk_drewN ?_ _ | refine blk_drew ?_ | refine blk_alloc ?_ _)); refine blk_put (cs := #[.int .i64 a2, .slice Ao36 y359.length co36, .slice Ao35 y362.length co35, .bool false]) ?_ 3 _ rfl; (with_reducible repeat (first | refine blk_drewN ?_ _ | refine blk_drew ?_ | refine blk_alloc ?_ _)); refine blk_put (cs := #[.int .i64 a2, .slice Ao36 y359.length co36, .slice none 0 0, .bool false]) ?_ 2 _ rfl; (with_reducible repeat (first | refine blk_drewN ?_ _ | refine blk_drew ?_ | refine blk_alloc ?_ _)); refine blk_put (cs := #[.int .i64 a2, .slice none 0 0, .slice none 0 0, .bool false]) ?_ 1 _ rfl; (with_reducible repeat (first | refine blk_drewN ?_ _ | refine blk_drew ?_ | refine blk_alloc ?_ _)); refine blk_put (cs := #[.int .i64 0, .slice none 0 0, .slice none 0 0, .bool false]) ?_ 0 _ rfl; (with_reducible repeat (first | refine blk_drewN ?_ _ | refine blk_drew ?_ | refine blk_alloc ?_ _)); exact BK358.out) Tryd.underlying24 rfl (by kernel_rfl)) rfl ?_
                      exact ⟨_, _, by first | rfl | (simp [errW_none, errW_some] <;> rfl) | (simp [*, errW_none, errW_some] <;> rfl), by (with_reducible repeat (first | apply Kd.R_alloc | apply Kd.R_drewN | apply Kd.R_drew)); exact Kd.R_mono (Kd.R_far (p := ⟨gb358, 3, none⟩) (Kd.R_far (p := ⟨gb358, 2, none⟩) (Kd.R_far (p := ⟨gb358, 1, none⟩) (Kd.R_far (p := ⟨gb358, 0, none⟩) (Kd.R_types HO361.out BK358.out (by decide)) (fun _ hk => hk.2) (.int .i64 a2)) (fun _ hk => hk.2) (.slice Ao36 y359.length co36)) (fun _ hk => hk.2) (.slice Ao35 y362.length co35)) (fun _ hk => hk.2) (.bool false)) (fun _ hk => hk.1), by (with_reducible repeat (first | apply Kd.R_alloc | apply Kd.R_drewN | apply Kd.R_drew)); exact Kd.R_mono (Kd.R_far (p := ⟨gb358, 3, none⟩) (Kd.R_far (p := ⟨gb358, 2, none⟩) (Kd.R_far (p := ⟨gb358, 1, none⟩) (Kd.R_far (p := ⟨gb358, 0, none⟩) (Kd.R_types HO364.out BK358.out (by decide)) (fun _ hk => hk.2) (.int .i64 a2)) (fun _ hk => hk.2) (.slice Ao36 y359.length co36)) (fun _ hk => hk.2) (.slice Ao35 y362.length co35)) (fun _ hk => hk.2) (.bool false)) (fun _ hk => hk.1), by repeat (first | (with_reducible first | exact HB.out | apply below_alloc | apply pw_below_drewN | apply below_drew1 | refine below_set ?_ GE358.out) | exact HB.out)⟩
                    · rw [if_neg c25] at H
                      exact absurd H (by simp)
                  · rw [if_neg c24] at H
                    exact absurd H (by simp)
                · rw [if_neg c23] at H
                  exact absurd H (by simp)
              · rw [if_neg c22] at H
                exact absurd H (by simp)

end Go.Proofs.YtponmfnegdlppaaDoor.P

end
section
/- A state and two older lists (printed by HRuns.gen.py). -/
namespace Go.Proofs.YtponmfnegdlppaaDoor.P
open Go.RowKit Go.Proofs.YtponmfnegdlppaaDoorW.PrintWords Go.Proofs.YtponmfnegdlppaaDoorW.PrintLast Go.Proofs.YtponmfnegdlppaaDoorW.PrintMore
set_option linter.unusedVariables false
set_option linter.unusedSimpArgs false

theorem new_eq {m r : Nat} {t : Int} (hm : m ≤ 6) (hr1 : 1 ≤ r) (hr : r ≤ 6) (h1 : 1 ≤ t) (h2 : t ≤ 5) : ledger_New.f m r t = some (t, List.replicate m z38, List.replicate r z38, false, 0) := by
  unfold ledger_New.f
  rw [if_neg (by omega), if_neg (by omega), if_neg (by omega), if_neg (by omega), if_neg (by omega), if_neg (by omega), if_pos (by omega), if_pos (by omega), if_pos (by omega), if_pos (by omega), Int.toNat_natCast, Int.toNat_natCast]
theorem zero56 : Tryd.zeroCells56 = ncells (fun _ => false) (fun _ => false) 0 0 := by kernel_rfl
def SR (w : World) (gN g11 : Nat) (t : Int) (m r : Nat) (W : World) : Prop := ∃ (A0' A1' : Option Addr) (p0' p1' : Nat) (l0' l1' : List S38) (fl' : Bool) (bg' ch' : Nat → Bool) (s' c' : Int), INV t l0' l1' fl' m r bg' ch' s' c' ∧
  Env w (⟨gN, ncells bg' ch' s' c', 56⟩ :: ⟨g11, #[.int .i64 t, .slice A0' l0'.length p0', .slice A1' l1'.length p1', .bool fl'], 24⟩ :: []) (⟨1, k38, 38, .slice A0' l0'.length p0', l0'⟩ :: ⟨2, k38, 38, .slice A1' l1'.length p1', l1'⟩ :: []) W
/-- a state, and two older lists that are read -/
structure LX (w : World) (B : List Bx) (R : List It) (A0 : Option Addr) (l0 : List S38) (A1 : Option Addr) (l1 : List S38) (W : World) : Prop where
  env : Env w B R W
  old0 : Kd.C k38 W A0 l0.length l0
  old1 : Kd.C k38 W A1 l1.length l1
section
variable {w W W' : World} {B : List Bx} {R : List It} {A0 A1 : Option Addr} {l0 l1 : List S38}
theorem LX.below (h : LX w B R A0 l0 A1 l1 W) (hb : Below W.heap.size W W') : LX w B R A0 l0 A1 l1 W' := ⟨h.env.below hb, Kd.C_below h.old0 hb, Kd.C_below h.old1 hb⟩
theorem LX.push (h : LX w B R A0 l0 A1 l1 W) (cs : Array Value) (t : Nat) : LX w (⟨W.heap.size, cs, t⟩ :: B) R A0 l0 A1 l1 (W.alloc (.cells cs t)) :=
  ⟨h.env.push cs t, Kd.C_below h.old0 (below_alloc (Below.refl _ _) _), Kd.C_below h.old1 (below_alloc (Below.refl _ _) _)⟩
theorem LX.at_ (h : LX w B R A0 l0 A1 l1 W) (n i : Nat) {g t : Nat} {cs : Array Value} {v : Value} (hn : B[n]? = some ⟨g, cs, t⟩) (hv : cs[i]? = some v) : W.cell? ⟨g, i, none⟩ = some v := h.env.at_ n i hn hv
theorem LX.fr_ (h : LX w B R A0 l0 A1 l1 W) (n i : Nat) {g t : Nat} {cs : Array Value} (hn : B[n]? = some ⟨g, cs, t⟩) : W.frozen? ⟨g, i, none⟩ = false := h.env.fr_ n i hn
theorem LX.row_ (h : LX w B R A0 l0 A1 l1 W) (n : Nat) {α : Type} {c e m cp : Nat} {d : Kd α} {A : Option Addr} {l : List α} (hn : R[n]? = some (⟨c, d, e, .slice A m cp, l⟩ : It)) : d.C W A l.length l := h.env.row_ n hn
theorem LX.store11 {g18 g16 g15 bN : Bx} {g11 t : Nat} {z0 z1 z2 z3 : Value} (h : LX w (g18 :: g16 :: g15 :: bN :: ⟨g11, #[z0, z1, z2, z3], t⟩ :: []) R A0 l0 A1 l1 W) (v0 v1 v2 v3 : Value) :
    Env w (bN :: ⟨g11, #[v0, v1, v2, v3], t⟩ :: []) R ((((W.setCell ⟨g11, 0, none⟩ v0).setCell ⟨g11, 1, none⟩ v1).setCell ⟨g11, 2, none⟩ v2).setCell ⟨g11, 3, none⟩ v3) :=
  (((h.env.sub (.cons _ (.cons _ (.cons _ (List.Sublist.refl _)))) (List.Sublist.refl _)).bswap).book4 v0 v1 v2 v3).bswap
end
theorem INV.f2s {t : Int} {l0 l1 : List S38} {fl : Bool} {m r : Nat} {bg ch : Nat → Bool} {s c : Int} (h : INV t l0 l1 fl m r bg ch s c) : ∀ x ∈ l0 ++ l1, 0 ≤ x.f2 ∧ x.f2 ≤ 16 := by
  obtain ⟨q1, q2, q3, q4, q5, q6, q7, q8, q9⟩ := (check_iff _ _ _ _).1 h.check
  intro x mx
  rcases List.mem_append.1 mx with mx | mx
  · obtain ⟨g1, g2, g3, g4, g5, g6, g7⟩ := good_state (q6 x mx); omega
  · obtain ⟨g1, g2, g3, g4, g5, g6, g7⟩ := good_state (q7 x mx); omega
end Go.Proofs.YtponmfnegdlppaaDoor.P

end
section
/- The law on what stays: its walk (printed by HRuns.gen.py). -/
namespace Go.Proofs.YtponmfnegdlppaaDoor.P
open Go.RowKit Go.Proofs.YtponmfnegdlppaaDoorW.PrintWords Go.Proofs.YtponmfnegdlppaaDoorW.PrintLast Go.Proofs.YtponmfnegdlppaaDoorW.PrintMore
set_option linter.unusedVariables false
set_option linter.unusedSimpArgs false

set_option maxHeartbeats 16000000 in
set_option maxRecDepth 100000 in
theorem LedgerStays_walk (a0 a1 a2 : Int) (A0 : Option Addr) (c0 : Nat) (l : List S58) (m r : Nat) (t : Int) (w : World) (hr0 : Kd.C k58 w A0 l.length l) (hc0 : l.length ≤ c0) (hlen : l.length ≤ 4400000000000) (hT : Tab w) (hm0 : winnowlaw19_few.f a0 0 6 = some (m : Int)) (hm1 : winnowlaw19_few.f a1 1 6 = some (r : Int)) (hm2 : winnowlaw19_few.f a2 1 5 = some t) (hb : m ≤ 6 ∧ 1 ≤ r ∧ r ≤ 6 ∧ 1 ≤ t ∧ t ≤ 5) :
    Calls Tryd.prog 7 #[.int .i64 a0, .int .i64 a1, .int .i64 a2, .slice A0 l.length c0] w fun e w' => e = .returned (.bool true) ∧ Below w.heap.size w w' := by
  have HLEN := Aside0.mk hlen
  clear hlen
  have HR := Aside0.mk hr0
  have HC := Aside0.mk hc0
  have HT := Aside0.mk hT
  have HM0 := Aside0.mk hm0
  have HM1 := Aside0.mk hm1
  have HM2 := Aside0.mk hm2
  have HB0 := Aside0.mk hb
  clear hr0 hc0 hT hm0 hm1 hm2 hb
  have hE := Env.start w
  have HE := Aside0.mk hE
  clear hE
  obtain ⟨L0, hL0⟩ : ∃ L, List.replicate m z38 = L := ⟨_, rfl⟩
  obtain ⟨L1, hL1⟩ : ∃ L, List.replicate r z38 = L := ⟨_, rfl⟩
  have HL0 := Aside0.mk hL0
  have HL1 := Aside0.mk hL1
  clear hL0 hL1
  have hu22 := Tryd.underlying22
  have hu24 := Tryd.underlying24
  have hu29 := Tryd.underlying29
  have hu38 := Tryd.underlying38
  have hu52 := Tryd.underlying52
  have hu53 := Tryd.underlying53
  have hu54 := Tryd.underlying54
  have hu56 := Tryd.underlying56
  have hu58 := Tryd.underlying58
  go_enter Tryd.func7, Tryd.ntmps7
  go_wp2_with fail
  refine (winnowlaw19_few.calls a0 0 6 (m : Int) _ HM0.out).mono ?_
  rintro e w1 ⟨rfl, hB⟩
  have hE := HE.out.below hB.below
  clear HE hB
  have HE := Aside0.mk hE
  clear hE
  go_wp2_with fail
  refine (winnowlaw19_few.calls a1 1 6 (r : Int) _ HM1.out).mono ?_
  rintro e w2 ⟨rfl, hB⟩
  have hE := HE.out.below hB.below
  clear HE hB
  have HE := Aside0.mk hE
  clear hE
  go_wp2_with fail
  refine (winnowlaw19_few.calls a2 1 5 t _ HM2.out).mono ?_
  rintro e w3 ⟨rfl, hB⟩
  have hE := HE.out.below hB.below
  clear HE hB
  have HE := Aside0.mk hE
  clear hE
  go_wp2_with fail
  refine (ledger_New.calls m r t t L0 L1 false 0 _ (by rw [new_eq HB0.out.1 HB0.out.2.1 HB0.out.2.2.1 HB0.out.2.2.2.1 HB0.out.2.2.2.2, HL0.out, HL1.out])).mono ?_
  rintro e w4 ⟨v0, v1, rfl, s0, s1, hB⟩
  have hE := HE.out.rows2 hB rfl s0 s1 1 2 (show ([1, 2] : List Nat).Nodup from by decide) (by decide) (by decide)
  obtain ⟨P0, q0_, rfl⟩ := Kd.R_slice s0
  obtain ⟨P1, q1_, rfl⟩ := Kd.R_slice s1
  clear hB s0 s1 HE
  have HE := Aside0.mk hE
  clear hE
  go_upto_region 4 with fail
  have hE := HE.out.push #[.int .i64 t, .slice P0 L0.length q0_, .slice P1 L1.length q1_, .bool false] 24
  obtain ⟨g11, hg⟩ : ∃ g, g = w4.heap.size := ⟨_, rfl⟩
  rw [← hg] at hE ⊢
  generalize w4.alloc (.cells #[.int .i64 t, .slice P0 L0.length q0_, .slice P1 L1.length q1_, .bool false] 24) = w5 at hE ⊢
  clear hg HE
  have HE := Aside0.mk hE
  clear hE
  have xg11_0 : w5.cell? ⟨g11, 0, none⟩ = some (.int .i64 t) := HE.out.at_ 0 0 rfl rfl
  have xg11_1 : w5.cell? ⟨g11, 1, none⟩ = some (.slice P0 L0.length q0_) := HE.out.at_ 0 1 rfl rfl
  have xg11_2 : w5.cell? ⟨g11, 2, none⟩ = some (.slice P1 L1.length q1_) := HE.out.at_ 0 2 rfl rfl
  have xg11_3 : w5.cell? ⟨g11, 3, none⟩ = some (.bool false) := HE.out.at_ 0 3 rfl rfl
  go_wp2_with fail
  refine (winnowlaw19_sized.calls t P0 q0_ _ P1 q1_ _ false m r true _ (HE.out.row_ 0 rfl) (HE.out.cap_ 0 rfl).2 (HE.out.row_ 1 rfl) (HE.out.cap_ 1 rfl).2 (sized_eq t _ _ false m r (by rw [← HL0.out]; exact List.length_replicate) (by rw [← HL1.out]; exact List.length_replicate))).mono ?_
  clear xg11_0 xg11_1 xg11_2 xg11_3
  rintro e w6 ⟨rfl, hB⟩
  have hE := HE.out.below hB
  clear HE hB
  have HE := Aside0.mk hE
  clear hE
  go_upto_region 6 with fail
  go_upto_region 7 with fail
  rw [zero56]
  have hE := HE.out.push (ncells (fun _ => false) (fun _ => false) 0 0) 56
  obtain ⟨gN, hg⟩ : ∃ g, g = w6.heap.size := ⟨_, rfl⟩
  rw [← hg] at hE ⊢
  generalize w6.alloc (.cells (ncells (fun _ => false) (fun _ => false) 0 0) 56) = w7 at hE ⊢
  clear hg HE
  have HE := Aside0.mk hE
  clear hE
  go_wp2_with fail
  have HI0 := Aside0.mk (show INV t L0 L1 false m r (fun _ => false) (fun _ => false) 0 0 by rw [← HL0.out, ← HL1.out]; exact INV.start HB0.out.2.2.2.1 (by have := HB0.out; omega) (by have := HB0.out; omega) HB0.out.2.1 (by have := HB0.out; omega))
  go_loopw [14] (fun v wr => ∃ i : Nat, i ≤ l.length ∧ v = .int .i64 i ∧ Aside0 (SR w gN g11 t m r wr)) (fun v _ => l.length - (intOf v).toNat)
  case atStart => exact ⟨0, Nat.zero_le _, rfl, ⟨_, _, _, _, _, _, _, _, _, _, _, HI0.out, HE.out⟩⟩
  case round =>
    clear HE HI0
    obtain ⟨i, hi, rfl, HS⟩ := hrel
    obtain ⟨A0_, A1_, p0, p1, l0, l1, fl, bg, ch, s, c, hI, hE⟩ := HS.out
    have HI := Aside0.mk hI
    have HE := Aside0.mk hE
    clear hI hE HS
    by_cases hlt : i < l.length
    · skip
      have hd1 : decide ((i : Int) < (l.length : Int)) = true := by simp; omega
      have p1_ : (0 : Int) ≤ (i : Int) := Int.natCast_nonneg i
      have q1_ : (i : Int) < (l.length : Int) := Int.ofNat_lt.2 hlt
      obtain ⟨ad, e, hx0, hx1, hx2, hx3⟩ := at_T58 HR.out i p1_ q1_
      subst e
      rw [Int.toNat_natCast] at hx0 hx1 hx2 hx3
      replace hx0 := cell_kept hx0 (Kept.of_below HE.out.out (fun _ => False)) (fun h => h)
      replace hx1 := cell_kept hx1 (Kept.of_below HE.out.out (fun _ => False)) (fun h => h)
      replace hx2 := cell_kept hx2 (Kept.of_below HE.out.out (fun _ => False)) (fun h => h)
      replace hx3 := cell_kept hx3 (Kept.of_below HE.out.out (fun _ => False)) (fun h => h)
      generalize rd_T58 l (i : Int) = x at hx0 hx1 hx2 hx3
      obtain ⟨y0, y1, y2, y3⟩ := x
      dsimp only at hx0 hx1 hx2 hx3
      have HWI := Aside0.mk (show wrap64 ((i : Int) + 1) = ((i + 1 : Nat) : Int) by have := HR.out; have := HLEN.out; unfold wrap64; omega)
      replace p1_ := eq_true p1_
      replace q1_ := eq_true q1_
      go_upto_region 11 with fail
      clear hx0 hx1 hx2 hx3 p1_ q1_ hd1
      have hE := HE.out.push #[.int .i64 y0, .int .i64 y1, .int .i64 y2, .int .i64 y3] 58
      obtain ⟨g15, hg⟩ : ∃ g, g = wr.heap.size := ⟨_, rfl⟩
      rw [← hg] at hE ⊢
      generalize wr.alloc (.cells #[.int .i64 y0, .int .i64 y1, .int .i64 y2, .int .i64 y3] 58) = w8 at hE ⊢
      clear hg HE
      have HE := Aside0.mk hE
      clear hE
      obtain ⟨o, ho⟩ : ∃ o, fewP y0 0 3 = o := ⟨_, rfl⟩
      obtain ⟨tk, htk⟩ : ∃ k, pickK y1 m r = k := ⟨_, rfl⟩
      obtain ⟨tb, htb⟩ : ∃ k, pickB y1 m r = k := ⟨_, rfl⟩
      obtain ⟨mt, hmt⟩ : ∃ mt : Nat, 1 ≤ m → fewP y2 0 ((m : Int) - 1) = mt := ⟨(fewP y2 0 ((m : Int) - 1)).toNat, fun h => by have := fewP_in y2 0 ((m : Int) - 1) (by omega); omega⟩
      obtain ⟨rt, hrt⟩ : ∃ rt : Nat, fewP y1 0 ((r : Int) - 1) = rt := ⟨(fewP y1 0 ((r : Int) - 1)).toNat, by have := HB0.out; have := fewP_in y1 0 ((r : Int) - 1) (by omega); omega⟩
      have HO := Aside0.mk ho
      have HTK := Aside0.mk htk
      have HTB := Aside0.mk htb
      have HMT := Aside0.mk hmt
      have HRT := Aside0.mk hrt
      clear ho htk htb hmt hrt
      have xg11_0 : w8.cell? ⟨g11, 0, none⟩ = some (.int .i64 t) := HE.out.at_ 2 0 rfl rfl
      have xg11_1 : w8.cell? ⟨g11, 1, none⟩ = some (.slice A0_ l0.length p0) := HE.out.at_ 2 1 rfl rfl
      have xg11_2 : w8.cell? ⟨g11, 2, none⟩ = some (.slice A1_ l1.length p1) := HE.out.at_ 2 2 rfl rfl
      have xg11_3 : w8.cell? ⟨g11, 3, none⟩ = some (.bool fl) := HE.out.at_ 2 3 rfl rfl
      have xg15_0 : w8.cell? ⟨g15, 0, none⟩ = some (.int .i64 y0) := HE.out.at_ 0 0 rfl rfl
      have xg15_1 : w8.cell? ⟨g15, 1, none⟩ = some (.int .i64 y1) := HE.out.at_ 0 1 rfl rfl
      have xg15_2 : w8.cell? ⟨g15, 2, none⟩ = some (.int .i64 y2) := HE.out.at_ 0 2 rfl rfl
      have xg15_3 : w8.cell? ⟨g15, 3, none⟩ = some (.int .i64 y3) := HE.out.at_ 0 3 rfl rfl
      go_wp2_with fail
      refine (made_any HE.out.bswap HT.out HI.out HB0.out.1 HB0.out.2.1 HB0.out.2.2.1 HO.out HTK.out HTB.out HMT.out HRT.out).mono ?_
      clear xg11_0 xg11_1 xg11_2 xg11_3 xg15_0 xg15_1 xg15_2 xg15_3
      rintro e w20 ⟨C0, C1, q0, q1, k0, k1, fl', bg', ch', s', c', rfl, hJ, hS, hE, hE2⟩
      have hL := LX.mk hE.bswap (hE2.row_ 0 rfl) (hE2.row_ 1 rfl)
      have HJ := Aside0.mk hJ
      have HS := Aside0.mk hS
      have HGI := Aside0.mk HI.out.f2s
      have HI0 := Aside0.mk (show l0.length = m ∧ l1.length = r from ⟨HI.out.n0, HI.out.n1⟩)
      clear HE HI hJ hS hE hE2
      have HE := Aside0.mk hL
      clear hL
      go_upto_region 12 with fail
      have hE := HE.out.push #[.int .i64 t, .slice C0 k0.length q0, .slice C1 k1.length q1, .bool fl'] 24
      obtain ⟨g16, hg⟩ : ∃ g, g = w20.heap.size := ⟨_, rfl⟩
      rw [← hg] at hE ⊢
      generalize w20.alloc (.cells #[.int .i64 t, .slice C0 k0.length q0, .slice C1 k1.length q1, .bool fl'] 24) = w9 at hE ⊢
      clear hg HE
      have HE := Aside0.mk hE
      clear hE
      have xg15_0 : w9.cell? ⟨g15, 0, none⟩ = some (.int .i64 y0) := HE.out.at_ 1 0 rfl rfl
      have xg15_1 : w9.cell? ⟨g15, 1, none⟩ = some (.int .i64 y1) := HE.out.at_ 1 1 rfl rfl
      have xg15_2 : w9.cell? ⟨g15, 2, none⟩ = some (.int .i64 y2) := HE.out.at_ 1 2 rfl rfl
      have xg15_3 : w9.cell? ⟨g15, 3, none⟩ = some (.int .i64 y3) := HE.out.at_ 1 3 rfl rfl
      go_wp2_with fail
      have hpk_ := picked_eq y1 m r HB0.out.1 HB0.out.2.1 HB0.out.2.2.1
      rw [HTK.out, HTB.out] at hpk_
      have HPK := Aside0.mk hpk_
      clear hpk_
      refine (winnowlaw19_picked.calls y1 m r tk tb _ HPK.out).mono ?_
      clear xg15_0 xg15_1 xg15_2 xg15_3
      rintro e w10 ⟨rfl, hB⟩
      have hE := HE.out.below hB
      clear HE hB
      have HE := Aside0.mk hE
      clear hE
      go_upto_region 15 with fail
      have hE := HE.out.push #[.int .i64 tk, .int .i64 tb] 29
      obtain ⟨g18, hg⟩ : ∃ g, g = w10.heap.size := ⟨_, rfl⟩
      rw [← hg] at hE ⊢
      generalize w10.alloc (.cells #[.int .i64 tk, .int .i64 tb] 29) = w11 at hE ⊢
      clear hg HE
      have HE := Aside0.mk hE
      clear hE
      have hfo_ := few_eq y0 0 3 (by omega) (by omega) (by omega)
      rw [HO.out] at hfo_
      have HFO := Aside0.mk hfo_
      clear hfo_
      obtain ⟨b3, hb3⟩ : ∃ b : Bool, (o == 3) = b := ⟨_, rfl⟩
      have HB3 := Aside0.mk hb3
      have xg15_0 : w11.cell? ⟨g15, 0, none⟩ = some (.int .i64 y0) := HE.out.at_ 2 0 rfl rfl
      have xg15_1 : w11.cell? ⟨g15, 1, none⟩ = some (.int .i64 y1) := HE.out.at_ 2 1 rfl rfl
      have xg15_2 : w11.cell? ⟨g15, 2, none⟩ = some (.int .i64 y2) := HE.out.at_ 2 2 rfl rfl
      have xg15_3 : w11.cell? ⟨g15, 3, none⟩ = some (.int .i64 y3) := HE.out.at_ 2 3 rfl rfl
      go_wp2_with fail
      refine (winnowlaw19_few.calls y0 0 3 o _ HFO.out).mono ?_
      clear xg15_0 xg15_1 xg15_2 xg15_3
      rintro e w12 ⟨rfl, hB⟩
      have hE := HE.out.below hB.below
      clear HE hB
      have HE := Aside0.mk hE
      clear hE
      go_wp2_with fail
      clear hb3
      have HPI := Aside0.mk (show (tk = 0 ∧ ∃ n : Nat, tb = n ∧ n < m) ∨ (tk = 1 ∧ ∃ n : Nat, tb = n ∧ n < r) by rw [← HTK.out, ← HTB.out]; exact pick_in y1 m r HB0.out.2.1)
      have HGD := Aside0.mk (show ∀ x ∈ l0 ++ l1, 0 ≤ x.f2 ∧ x.f2 ≤ 16 from HGI.out)
      go_loopw [20] (fun v wr => ∃ k : Nat, k ≤ m ∧ v = .int .i64 k ∧ Aside0 (LX w (⟨g18, #[.int .i64 tk, .int .i64 tb], 29⟩ :: ⟨g16, #[.int .i64 t, .slice C0 k0.length q0, .slice C1 k1.length q1, .bool fl'], 24⟩ :: ⟨g15, #[.int .i64 y0, .int .i64 y1, .int .i64 y2, .int .i64 y3], 58⟩ :: ⟨gN, (ncells bg' ch' s' c'), 56⟩ :: ⟨g11, #[.int .i64 t, .slice A0_ l0.length p0, .slice A1_ l1.length p1, .bool fl], 24⟩ :: []) (⟨1, k38, 38, .slice C0 k0.length q0, k0⟩ :: ⟨2, k38, 38, .slice C1 k1.length q1, k1⟩ :: []) A0_ l0 A1_ l1 wr)) (fun v _ => m - (intOf v).toNat)
      case atStart => exact ⟨0, Nat.zero_le _, rfl, HE⟩
      case round =>
        clear HE
        obtain ⟨k, hk, rfl, HE⟩ := hrel
        by_cases hlt2 : k < m
        · skip
          have hd2 : decide ((k : Int) < (m : Int)) = true := by simp; omega
          have hd3 : decide (k < m) = true := by simp; omega
          go_upto_region 19 with fail
          go_cut [21] (fun s0 wx => ∃ b : Bool, s0 = .bool b ∧ Aside0 (b = false → ¬ (o ≠ 3 ∧ tk = 0 ∧ tb = k ∨ o = 3 ∧ mt = k)) ∧ Aside0 (LX w (⟨g18, #[.int .i64 tk, .int .i64 tb], 29⟩ :: ⟨g16, #[.int .i64 t, .slice C0 k0.length q0, .slice C1 k1.length q1, .bool fl'], 24⟩ :: ⟨g15, #[.int .i64 y0, .int .i64 y1, .int .i64 y2, .int .i64 y3], 58⟩ :: ⟨gN, (ncells bg' ch' s' c'), 56⟩ :: ⟨g11, #[.int .i64 t, .slice A0_ l0.length p0, .slice A1_ l1.length p1, .bool fl], 24⟩ :: []) (⟨1, k38, 38, .slice C0 k0.length q0, k0⟩ :: ⟨2, k38, 38, .slice C1 k1.length q1, k1⟩ :: []) A0_ l0 A1_ l1 wx))
          case first =>
            as_aux_lemma =>
              have xg15_0 : wr.cell? ⟨g15, 0, none⟩ = some (.int .i64 y0) := HE.out.at_ 2 0 rfl rfl
              have xg15_1 : wr.cell? ⟨g15, 1, none⟩ = some (.int .i64 y1) := HE.out.at_ 2 1 rfl rfl
              have xg15_2 : wr.cell? ⟨g15, 2, none⟩ = some (.int .i64 y2) := HE.out.at_ 2 2 rfl rfl
              have xg15_3 : wr.cell? ⟨g15, 3, none⟩ = some (.int .i64 y3) := HE.out.at_ 2 3 rfl rfl
              have xg18_0 : wr.cell? ⟨g18, 0, none⟩ = some (.int .i64 tk) := HE.out.at_ 0 0 rfl rfl
              have xg18_1 : wr.cell? ⟨g18, 1, none⟩ = some (.int .i64 tb) := HE.out.at_ 0 1 rfl rfl
              cases b3
              · have ho3 : o ≠ 3 := fun e => by have q := HB3.out; rw [e] at q; exact absurd q (by decide)
                rcases HPI.out with ⟨rfl, n_, rfl, hn_⟩ | ⟨rfl, n_, rfl, hn_⟩
                · skip
                  by_cases e_ : n_ = k
                  · subst e_
                    go_wp2_with fail
                    go_meet
                    exact ⟨true, rfl, ⟨fun h => by cases h⟩, HE⟩
                  · have d_ : ((n_ : Int) == (k : Int)) = false := by simp; omega
                    go_wp2_with fail
                    go_meet
                    exact ⟨false, rfl, ⟨fun _ h => by rcases h with h | h; exact e_ (by have := h.2.2; omega); exact ho3 h.1⟩, HE⟩
                · skip
                  go_wp2_with fail
                  go_meet
                  exact ⟨false, rfl, ⟨fun _ h => by rcases h with h | h; exact absurd h.2.1 (by decide); exact ho3 h.1⟩, HE⟩
              · have HO3 := Aside0.mk (show o = 3 by have q := HB3.out; simpa using q)
                have hwm_ : IntKind.i64.wrap ((m : Int) - 1) = (m : Int) - 1 := by rw [IntKind.wrap_i64]; have := HB0.out; omega
                have hfm_ := few_eq y2 0 ((m : Int) - 1) (by omega) (by omega) (by have := HB0.out; omega)
                rw [HMT.out (by omega)] at hfm_
                have HFM := Aside0.mk hfm_
                clear hfm_
                go_wp2_with fail
                refine (winnowlaw19_few.calls y2 0 ((m : Int) - 1) (mt : Int) _ HFM.out).mono ?_
                clear xg15_0 xg15_1 xg15_2 xg15_3 xg18_0 xg18_1 hwm_
                rintro e w30 ⟨rfl, hB⟩
                have hE := HE.out.below hB.below
                clear HE hB
                have HE := Aside0.mk hE
                clear hE
                by_cases e_ : mt = k
                · subst e_
                  go_wp2_with fail
                  go_meet
                  exact ⟨true, rfl, ⟨fun h => by cases h⟩, HE⟩
                · have d_ : ((mt : Int) == (k : Int)) = false := by simp; omega
                  go_wp2_with fail
                  go_meet
                  exact ⟨false, rfl, ⟨fun _ h => by rcases h with h | h; exact h.1 HO3.out; exact e_ h.2⟩, HE⟩
          case rest =>
            as_aux_lemma =>
              clear HE hd2 hd3
              obtain ⟨b, rfl, HBF, HE⟩ := hcut
              go_upto_region 20 with fail
              obtain ⟨ad0, e0, hx0, hx1, hx2⟩ := at_T38 HE.out.old0 (k : Int) (by omega) (by have := HI0.out; omega)
              obtain ⟨ad1, e1, hy0, hy1, hy2⟩ := at_T38 (HE.out.row_ 0 rfl) (k : Int) (by omega) (by have := HJ.out.n0; omega)
              subst e0 e1
              rw [Int.toNat_natCast] at hx0 hx1 hx2 hy0 hy1 hy2
              have h1_ : k < l0.length := by have := HI0.out; omega
              have h2_ : k < k0.length := by have := HJ.out.n0; omega
              have HM_ := Aside0.mk (show b = false → rd_T38 k0 (k : Int) = rd_T38 l0 (k : Int) from fun hb => by rw [rd38 l0 k h1_, rd38 k0 k h2_]; exact HS.out.maps k h1_ h2_ (HBF.out hb))
              have HD_ := Aside0.mk (show (rd_T38 l0 (k : Int)).f0 = 3 → (rd_T38 k0 (k : Int)).f0 ≠ 3 → o = 3 ∧ (rd_T38 k0 (k : Int)).f2 = (rd_T38 l0 (k : Int)).f2 + 1 by rw [rd38 l0 k h1_, rd38 k0 k h2_]; exact HS.out.done k h1_ h2_)
              have HG_ := Aside0.mk (show 0 ≤ (rd_T38 l0 (k : Int)).f2 ∧ (rd_T38 l0 (k : Int)).f2 ≤ 16 from HGD.out _ (List.mem_append_left _ (rd_mem h1_)))
              have p2_ : ((0 : Int) ≤ (k : Int)) = True := eq_true (Int.natCast_nonneg k)
              have q2_ : ((k : Int) < (l0.length : Int)) = True := eq_true (Int.ofNat_lt.2 h1_)
              have q3_ : ((k : Int) < (k0.length : Int)) = True := eq_true (Int.ofNat_lt.2 h2_)
              generalize rd_T38 l0 (k : Int) = x at *
              generalize rd_T38 k0 (k : Int) = y at *
              clear h1_ h2_
              obtain ⟨xa, xb, xc⟩ := x
              obtain ⟨ya, yb, yc⟩ := y
              dsimp only at *
              have HWK := Aside0.mk (show wrap64 ((k : Int) + 1) = ((k + 1 : Nat) : Int) by have := HB0.out; unfold wrap64; omega)
              have xg16_0 : wc.cell? ⟨g16, 0, none⟩ = some (.int .i64 t) := HE.out.at_ 1 0 rfl rfl
              have xg16_1 : wc.cell? ⟨g16, 1, none⟩ = some (.slice (some ad1) k0.length q0) := HE.out.at_ 1 1 rfl rfl
              have xg16_2 : wc.cell? ⟨g16, 2, none⟩ = some (.slice C1 k1.length q1) := HE.out.at_ 1 2 rfl rfl
              have xg16_3 : wc.cell? ⟨g16, 3, none⟩ = some (.bool fl') := HE.out.at_ 1 3 rfl rfl
              have xg11_0 : wc.cell? ⟨g11, 0, none⟩ = some (.int .i64 t) := HE.out.at_ 4 0 rfl rfl
              have xg11_1 : wc.cell? ⟨g11, 1, none⟩ = some (.slice (some ad0) l0.length p0) := HE.out.at_ 4 1 rfl rfl
              have xg11_2 : wc.cell? ⟨g11, 2, none⟩ = some (.slice A1_ l1.length p1) := HE.out.at_ 4 2 rfl rfl
              have xg11_3 : wc.cell? ⟨g11, 3, none⟩ = some (.bool fl) := HE.out.at_ 4 3 rfl rfl
              by_cases hs3 : xa = 3
              · skip
                subst hs3
                cases b
                · obtain ⟨rfl, rfl, rfl⟩ : ya = 3 ∧ yb = xb ∧ yc = xc := by have q := HM_.out rfl; injection q with a b c; exact ⟨a, b, c⟩
                  go_quiet (fail)
                  go_wp2_with fail
                  go_roundw
                  case rel => exact ⟨k + 1, by omega, by rw [HWK.out], ⟨HE.out.below (by repeat (first | exact Below.refl _ _ | apply pw_below_drewN | apply below_drew1))⟩⟩
                  case measure => rw [HWK.out]; simp only [intOf, Int.toNat_natCast]; omega
                · by_cases hy3 : ya = 3
                  · subst hy3
                    go_quiet (fail)
                    go_wp2_with fail
                    go_roundw
                    case rel => exact ⟨k + 1, by omega, by rw [HWK.out], ⟨HE.out.below (by repeat (first | exact Below.refl _ _ | apply pw_below_drewN | apply below_drew1))⟩⟩
                    case measure => rw [HWK.out]; simp only [intOf, Int.toNat_natCast]; omega
                  · obtain ⟨ho3, rfl⟩ := HD_.out rfl hy3
                    obtain rfl : b3 = true := by rw [← HB3.out, ho3]; rfl
                    have hy4_ : (ya == 3) = false := by simpa using hy3
                    have hy5_ : (ya != 3) = true := by simpa using hy3
                    have hw_ : IntKind.i64.wrap (xc + 1) = xc + 1 := by rw [IntKind.wrap_i64]; have := HG_.out; omega
                    go_quiet (fail)
                    go_wp2_with fail
                    go_roundw
                    case rel => exact ⟨k + 1, by omega, by rw [HWK.out], ⟨HE.out.below (by repeat (first | exact Below.refl _ _ | apply pw_below_drewN | apply below_drew1))⟩⟩
                    case measure => rw [HWK.out]; simp only [intOf, Int.toNat_natCast]; omega
              · have hx4_ : (xa == 3) = false := by simpa using hs3
                have hx5_ : (xa != 3) = true := by simpa using hs3
                cases b
                · obtain ⟨rfl, rfl, rfl⟩ : ya = xa ∧ yb = xb ∧ yc = xc := by have q := HM_.out rfl; injection q with a b c; exact ⟨a, b, c⟩
                  go_quiet (fail)
                  go_wp2_with fail
                  go_roundw
                  case rel => exact ⟨k + 1, by omega, by rw [HWK.out], ⟨HE.out.below (by repeat (first | exact Below.refl _ _ | apply pw_below_drewN | apply below_drew1))⟩⟩
                  case measure => rw [HWK.out]; simp only [intOf, Int.toNat_natCast]; omega
                · skip
                  go_quiet (fail)
                  go_wp2_with fail
                  go_roundw
                  case rel => exact ⟨k + 1, by omega, by rw [HWK.out], ⟨HE.out.below (by repeat (first | exact Below.refl _ _ | apply pw_below_drewN | apply below_drew1))⟩⟩
                  case measure => rw [HWK.out]; simp only [intOf, Int.toNat_natCast]; omega
        · obtain rfl : k = m := by omega
          skip
          go_wp2_with fail
          go_loopw [22] (fun v wr => ∃ k : Nat, k ≤ r ∧ v = .int .i64 k ∧ Aside0 (LX w (⟨g18, #[.int .i64 tk, .int .i64 tb], 29⟩ :: ⟨g16, #[.int .i64 t, .slice C0 k0.length q0, .slice C1 k1.length q1, .bool fl'], 24⟩ :: ⟨g15, #[.int .i64 y0, .int .i64 y1, .int .i64 y2, .int .i64 y3], 58⟩ :: ⟨gN, (ncells bg' ch' s' c'), 56⟩ :: ⟨g11, #[.int .i64 t, .slice A0_ l0.length p0, .slice A1_ l1.length p1, .bool fl], 24⟩ :: []) (⟨1, k38, 38, .slice C0 k0.length q0, k0⟩ :: ⟨2, k38, 38, .slice C1 k1.length q1, k1⟩ :: []) A0_ l0 A1_ l1 wr)) (fun v _ => r - (intOf v).toNat)
          case atStart => exact ⟨0, Nat.zero_le _, rfl, HE⟩
          case round =>
            clear HE
            obtain ⟨k, hk, rfl, HE⟩ := hrel
            by_cases hlt2 : k < r
            · skip
              have hd2 : decide ((k : Int) < (r : Int)) = true := by simp; omega
              have hd3 : decide (k < r) = true := by simp; omega
              go_upto_region 25 with fail
              go_cut [23] (fun s0 wx => ∃ b : Bool, s0 = .bool b ∧ Aside0 (b = false → ¬ (o ≠ 3 ∧ tk = 1 ∧ tb = k ∨ o = 3 ∧ rt = k)) ∧ Aside0 (LX w (⟨g18, #[.int .i64 tk, .int .i64 tb], 29⟩ :: ⟨g16, #[.int .i64 t, .slice C0 k0.length q0, .slice C1 k1.length q1, .bool fl'], 24⟩ :: ⟨g15, #[.int .i64 y0, .int .i64 y1, .int .i64 y2, .int .i64 y3], 58⟩ :: ⟨gN, (ncells bg' ch' s' c'), 56⟩ :: ⟨g11, #[.int .i64 t, .slice A0_ l0.length p0, .slice A1_ l1.length p1, .bool fl], 24⟩ :: []) (⟨1, k38, 38, .slice C0 k0.length q0, k0⟩ :: ⟨2, k38, 38, .slice C1 k1.length q1, k1⟩ :: []) A0_ l0 A1_ l1 wx))
              case first =>
                as_aux_lemma =>
                  have xg15_0 : wr.cell? ⟨g15, 0, none⟩ = some (.int .i64 y0) := HE.out.at_ 2 0 rfl rfl
                  have xg15_1 : wr.cell? ⟨g15, 1, none⟩ = some (.int .i64 y1) := HE.out.at_ 2 1 rfl rfl
                  have xg15_2 : wr.cell? ⟨g15, 2, none⟩ = some (.int .i64 y2) := HE.out.at_ 2 2 rfl rfl
                  have xg15_3 : wr.cell? ⟨g15, 3, none⟩ = some (.int .i64 y3) := HE.out.at_ 2 3 rfl rfl
                  have xg18_0 : wr.cell? ⟨g18, 0, none⟩ = some (.int .i64 tk) := HE.out.at_ 0 0 rfl rfl
                  have xg18_1 : wr.cell? ⟨g18, 1, none⟩ = some (.int .i64 tb) := HE.out.at_ 0 1 rfl rfl
                  cases b3
                  · have ho3 : o ≠ 3 := fun e => by have q := HB3.out; rw [e] at q; exact absurd q (by decide)
                    rcases HPI.out with ⟨rfl, n_, rfl, hn_⟩ | ⟨rfl, n_, rfl, hn_⟩
                    · skip
                      go_wp2_with fail
                      go_meet
                      exact ⟨false, rfl, ⟨fun _ h => by rcases h with h | h; exact absurd h.2.1 (by decide); exact ho3 h.1⟩, HE⟩
                    · skip
                      by_cases e_ : n_ = k
                      · subst e_
                        go_wp2_with fail
                        go_meet
                        exact ⟨true, rfl, ⟨fun h => by cases h⟩, HE⟩
                      · have d_ : ((n_ : Int) == (k : Int)) = false := by simp; omega
                        go_wp2_with fail
                        go_meet
                        exact ⟨false, rfl, ⟨fun _ h => by rcases h with h | h; exact e_ (by have := h.2.2; omega); exact ho3 h.1⟩, HE⟩
                  · have HO3 := Aside0.mk (show o = 3 by have q := HB3.out; simpa using q)
                    have hwm_ : IntKind.i64.wrap ((r : Int) - 1) = (r : Int) - 1 := by rw [IntKind.wrap_i64]; have := HB0.out; omega
                    have hfm_ := few_eq y1 0 ((r : Int) - 1) (by omega) (by omega) (by have := HB0.out; omega)
                    rw [HRT.out] at hfm_
                    have HFM := Aside0.mk hfm_
                    clear hfm_
                    go_wp2_with fail
                    refine (winnowlaw19_few.calls y1 0 ((r : Int) - 1) (rt : Int) _ HFM.out).mono ?_
                    clear xg15_0 xg15_1 xg15_2 xg15_3 xg18_0 xg18_1 hwm_
                    rintro e w30 ⟨rfl, hB⟩
                    have hE := HE.out.below hB.below
                    clear HE hB
                    have HE := Aside0.mk hE
                    clear hE
                    by_cases e_ : rt = k
                    · subst e_
                      go_wp2_with fail
                      go_meet
                      exact ⟨true, rfl, ⟨fun h => by cases h⟩, HE⟩
                    · have d_ : ((rt : Int) == (k : Int)) = false := by simp; omega
                      go_wp2_with fail
                      go_meet
                      exact ⟨false, rfl, ⟨fun _ h => by rcases h with h | h; exact h.1 HO3.out; exact e_ h.2⟩, HE⟩
              case rest =>
                as_aux_lemma =>
                  clear HE hd2 hd3
                  obtain ⟨b, rfl, HBF, HE⟩ := hcut
                  go_upto_region 26 with fail
                  obtain ⟨ad0, e0, hx0, hx1, hx2⟩ := at_T38 HE.out.old1 (k : Int) (by omega) (by have := HI0.out; omega)
                  obtain ⟨ad1, e1, hy0, hy1, hy2⟩ := at_T38 (HE.out.row_ 1 rfl) (k : Int) (by omega) (by have := HJ.out.n1; omega)
                  subst e0 e1
                  rw [Int.toNat_natCast] at hx0 hx1 hx2 hy0 hy1 hy2
                  have h1_ : k < l1.length := by have := HI0.out; omega
                  have h2_ : k < k1.length := by have := HJ.out.n1; omega
                  have HM_ := Aside0.mk (show b = false → rd_T38 k1 (k : Int) = rd_T38 l1 (k : Int) from fun hb => by rw [rd38 l1 k h1_, rd38 k1 k h2_]; exact HS.out.reds k h1_ h2_ (HBF.out hb))
                  have HD_ := Aside0.mk (show (rd_T38 l1 (k : Int)).f0 = 3 → rd_T38 k1 (k : Int) = rd_T38 l1 (k : Int) by rw [rd38 l1 k h1_, rd38 k1 k h2_]; exact HS.out.rdone k h1_ h2_)
                  have p2_ : ((0 : Int) ≤ (k : Int)) = True := eq_true (Int.natCast_nonneg k)
                  have q2_ : ((k : Int) < (l1.length : Int)) = True := eq_true (Int.ofNat_lt.2 h1_)
                  have q3_ : ((k : Int) < (k1.length : Int)) = True := eq_true (Int.ofNat_lt.2 h2_)
                  generalize rd_T38 l1 (k : Int) = x at *
                  generalize rd_T38 k1 (k : Int) = y at *
                  clear h1_ h2_
                  obtain ⟨xa, xb, xc⟩ := x
                  obtain ⟨ya, yb, yc⟩ := y
                  dsimp only at *
                  have HWK := Aside0.mk (show wrap64 ((k : Int) + 1) = ((k + 1 : Nat) : Int) by have := HB0.out; unfold wrap64; omega)
                  have xg16_0 : wc.cell? ⟨g16, 0, none⟩ = some (.int .i64 t) := HE.out.at_ 1 0 rfl rfl
                  have xg16_1 : wc.cell? ⟨g16, 1, none⟩ = some (.slice C0 k0.length q0) := HE.out.at_ 1 1 rfl rfl
                  have xg16_2 : wc.cell? ⟨g16, 2, none⟩ = some (.slice (some ad1) k1.length q1) := HE.out.at_ 1 2 rfl rfl
                  have xg16_3 : wc.cell? ⟨g16, 3, none⟩ = some (.bool fl') := HE.out.at_ 1 3 rfl rfl
                  have xg11_0 : wc.cell? ⟨g11, 0, none⟩ = some (.int .i64 t) := HE.out.at_ 4 0 rfl rfl
                  have xg11_1 : wc.cell? ⟨g11, 1, none⟩ = some (.slice A0_ l0.length p0) := HE.out.at_ 4 1 rfl rfl
                  have xg11_2 : wc.cell? ⟨g11, 2, none⟩ = some (.slice (some ad0) l1.length p1) := HE.out.at_ 4 2 rfl rfl
                  have xg11_3 : wc.cell? ⟨g11, 3, none⟩ = some (.bool fl) := HE.out.at_ 4 3 rfl rfl
                  by_cases hs3 : xa = 3
                  · skip
                    subst hs3
                    cases b
                    · obtain ⟨rfl, rfl, rfl⟩ : ya = 3 ∧ yb = xb ∧ yc = xc := by have q := HM_.out rfl; injection q with a b c; exact ⟨a, b, c⟩
                      go_quiet (fail)
                      go_wp2_with fail
                      go_roundw
                      case rel => exact ⟨k + 1, by omega, by rw [HWK.out], ⟨HE.out.below (by repeat (first | exact Below.refl _ _ | apply pw_below_drewN | apply below_drew1))⟩⟩
                      case measure => rw [HWK.out]; simp only [intOf, Int.toNat_natCast]; omega
                    · obtain ⟨rfl, rfl, rfl⟩ : ya = 3 ∧ yb = xb ∧ yc = xc := by have q := HD_.out rfl; injection q with a b c; exact ⟨a, b, c⟩
                      go_quiet (fail)
                      go_wp2_with fail
                      go_roundw
                      case rel => exact ⟨k + 1, by omega, by rw [HWK.out], ⟨HE.out.below (by repeat (first | exact Below.refl _ _ | apply pw_below_drewN | apply below_drew1))⟩⟩
                      case measure => rw [HWK.out]; simp only [intOf, Int.toNat_natCast]; omega
                  · have hx4_ : (xa == 3) = false := by simpa using hs3
                    have hx5_ : (xa != 3) = true := by simpa using hs3
                    cases b
                    · obtain ⟨rfl, rfl, rfl⟩ : ya = xa ∧ yb = xb ∧ yc = xc := by have q := HM_.out rfl; injection q with a b c; exact ⟨a, b, c⟩
                      go_quiet (fail)
                      go_wp2_with fail
                      go_roundw
                      case rel => exact ⟨k + 1, by omega, by rw [HWK.out], ⟨HE.out.below (by repeat (first | exact Below.refl _ _ | apply pw_below_drewN | apply below_drew1))⟩⟩
                      case measure => rw [HWK.out]; simp only [intOf, Int.toNat_natCast]; omega
                    · skip
                      go_quiet (fail)
                      go_wp2_with fail
                      go_roundw
                      case rel => exact ⟨k + 1, by omega, by rw [HWK.out], ⟨HE.out.below (by repeat (first | exact Below.refl _ _ | apply pw_below_drewN | apply below_drew1))⟩⟩
                      case measure => rw [HWK.out]; simp only [intOf, Int.toNat_natCast]; omega
            · obtain rfl : k = r := by omega
              skip
              go_upto_region 28 with fail
              have xg16_0 : wr.cell? ⟨g16, 0, none⟩ = some (.int .i64 t) := HE.out.at_ 1 0 rfl rfl
              have xg16_1 : wr.cell? ⟨g16, 1, none⟩ = some (.slice C0 k0.length q0) := HE.out.at_ 1 1 rfl rfl
              have xg16_2 : wr.cell? ⟨g16, 2, none⟩ = some (.slice C1 k1.length q1) := HE.out.at_ 1 2 rfl rfl
              have xg16_3 : wr.cell? ⟨g16, 3, none⟩ = some (.bool fl') := HE.out.at_ 1 3 rfl rfl
              have xg11_0 : wr.cell? ⟨g11, 0, none⟩ = some (.int .i64 t) := HE.out.at_ 4 0 rfl rfl
              have xg11_1 : wr.cell? ⟨g11, 1, none⟩ = some (.slice A0_ l0.length p0) := HE.out.at_ 4 1 rfl rfl
              have xg11_2 : wr.cell? ⟨g11, 2, none⟩ = some (.slice A1_ l1.length p1) := HE.out.at_ 4 2 rfl rfl
              have xg11_3 : wr.cell? ⟨g11, 3, none⟩ = some (.bool fl) := HE.out.at_ 4 3 rfl rfl
              have fg11_0 : wr.frozen? ⟨g11, 0, none⟩ = false := HE.out.fr_ 4 0 rfl
              have fg11_1 : wr.frozen? ⟨g11, 1, none⟩ = false := HE.out.fr_ 4 1 rfl
              have fg11_2 : wr.frozen? ⟨g11, 2, none⟩ = false := HE.out.fr_ 4 2 rfl
              have fg11_3 : wr.frozen? ⟨g11, 3, none⟩ = false := HE.out.fr_ 4 3 rfl
              have hE := HE.out.store11 (.int .i64 t) (.slice C0 k0.length q0) (.slice C1 k1.length q1) (.bool fl')
              have HE2 := Aside0.mk hE
              clear hE
              go_wp2_with fail
              go_roundw
              case rel => exact ⟨i + 1, by omega, by rw [HWI.out], ⟨_, _, _, _, _, _, _, _, _, _, _, HJ.out, HE2.out⟩⟩
              case measure => rw [HWI.out]; simp only [intOf, Int.toNat_natCast]; omega
    · obtain rfl : i = l.length := by omega
      go_wp2_with fail
      go_ret
      exact ⟨rfl, HE.out.out⟩
/-- The law as a function with a contract: true of whatever is not too long. -/
def winnowlaw19_LedgerStays.f (a0 a1 a2 : Int) (l3 : List S58) : Option Bool := if l3.length ≤ 4400000000000 then some true else none
theorem winnowlaw19_LedgerStays.calls (a0 : Int) (a1 : Int) (a2 : Int) (A3 : Option Addr) (c3 : Nat) (l3 : List S58) (r : Bool) (w : World) (hr3 : Kd.C k58 w A3 l3.length l3) (hc3 : l3.length ≤ c3) (h : winnowlaw19_LedgerStays.f a0 a1 a2 l3 = some r) (hTAB_ : Tab w) :
    Calls Tryd.prog 7 #[.int .i64 a0, .int .i64 a1, .int .i64 a2, .slice A3 l3.length c3] w fun e w' => e = .returned (.bool r) ∧ Below w.heap.size w w' := by
  unfold winnowlaw19_LedgerStays.f at h
  by_cases hs : l3.length ≤ 4400000000000
  · rw [if_pos hs] at h
    injection h with h
    subst h
    have e0 := fewP_in a0 0 6 (by omega)
    have e1 := fewP_in a1 1 6 (by omega)
    have e2 := fewP_in a2 1 5 (by omega)
    have f0 := few_eq a0 0 6 (by omega) (by omega) (by omega)
    have f1 := few_eq a1 1 6 (by omega) (by omega) (by omega)
    have f2 := few_eq a2 1 5 (by omega) (by omega) (by omega)
    obtain ⟨m, hm⟩ : ∃ m : Nat, fewP a0 0 6 = m := ⟨(fewP a0 0 6).toNat, by omega⟩
    obtain ⟨r, hr⟩ : ∃ r : Nat, fewP a1 1 6 = r := ⟨(fewP a1 1 6).toNat, by omega⟩
    rw [hm] at e0 f0
    rw [hr] at e1 f1
    exact LedgerStays_walk a0 a1 a2 A3 c3 l3 m r _ w hr3 hc3 hs hTAB_ f0 f1 f2 ⟨by omega, by omega, by omega, by omega, by omega⟩
  · rw [if_neg hs] at h
    cases h
end Go.Proofs.YtponmfnegdlppaaDoor.P

end
