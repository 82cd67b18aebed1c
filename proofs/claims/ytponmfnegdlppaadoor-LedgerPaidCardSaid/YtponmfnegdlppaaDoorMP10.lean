/- Several texts laid together (wip/tools/merge2.py): HMade. -/
import Derived.Test.YtponmfnegdlppaaDoorMP9
import Derived.Outline
import Derived.Deep.DeepCutAuto
import Derived.Deep.RegionHeld3
section
/- made: a move on a book, path by path (printed by HMade.gen.py). -/
namespace Go.Proofs.YtponmfnegdlppaaDoor.P
open Go.RowKit Go.Proofs.YtponmfnegdlppaaDoorW.PrintWords Go.Proofs.YtponmfnegdlppaaDoorW.PrintLast Go.Proofs.YtponmfnegdlppaaDoorW.PrintMore
set_option linter.unusedVariables false
set_option linter.unusedSimpArgs false

theorem Env.book4 {w0 W : World} {B : List Bx} {R : List It} {g t : Nat} {z0 z1 z2 z3 : Value} (h : Env w0 (⟨g, #[z0, z1, z2, z3], t⟩ :: B) R W) (v0 v1 v2 v3 : Value) :
    Env w0 (⟨g, #[v0, v1, v2, v3], t⟩ :: B) R ((((W.setCell ⟨g, 0, none⟩ v0).setCell ⟨g, 1, none⟩ v1).setCell ⟨g, 2, none⟩ v2).setCell ⟨g, 3, none⟩ v3) := (((h.set 0 v0).set 1 v1).set 2 v2).set 3 v3
theorem Env.bperm {w0 W : World} {B B' : List Bx} {R : List It} (h : Env w0 B R W) (p : B.Perm B') : Env w0 B' R W := by
  obtain ⟨h1, h2, h3, col, hB, hR⟩ := h
  exact ⟨h1, (p.map (·.g)).nodup_iff.1 h2, h3, col, fun b m => hB b (p.mem_iff.2 m), hR⟩
/-- a box to the front -/
theorem Env.bfront {w0 W : World} {R : List It} (B1 : List Bx) {b : Bx} {B2 : List Bx} (h : Env w0 (B1 ++ b :: B2) R W) : Env w0 (b :: (B1 ++ B2)) R W := h.bperm List.perm_middle
theorem Env.bf5 {w0 W : World} {R : List It} {b1 b2 b3 b4 b5 b : Bx} {B : List Bx} (h : Env w0 (b1 :: b2 :: b3 :: b4 :: b5 :: b :: B) R W) : Env w0 (b :: b1 :: b2 :: b3 :: b4 :: b5 :: B) R W := h.bperm (List.perm_middle (l₁ := [b1, b2, b3, b4, b5]))
theorem Env.bb5 {w0 W : World} {R : List It} {b1 b2 b3 b4 b5 b : Bx} {B : List Bx} (h : Env w0 (b :: b1 :: b2 :: b3 :: b4 :: b5 :: B) R W) : Env w0 (b1 :: b2 :: b3 :: b4 :: b5 :: b :: B) R W := h.bperm (List.perm_middle (l₁ := [b1, b2, b3, b4, b5])).symm
/-- four cells of the third box -/
theorem Env.st2 {w0 W : World} {B : List Bx} {R : List It} {a b : Bx} {g t : Nat} {z0 z1 z2 z3 : Value} (h : Env w0 (a :: b :: ⟨g, #[z0, z1, z2, z3], t⟩ :: B) R W) (v0 v1 v2 v3 : Value) :
    Env w0 (a :: b :: ⟨g, #[v0, v1, v2, v3], t⟩ :: B) R ((((W.setCell ⟨g, 0, none⟩ v0).setCell ⟨g, 1, none⟩ v1).setCell ⟨g, 2, none⟩ v2).setCell ⟨g, 3, none⟩ v3) :=
  ((h.bperm (List.perm_middle (l₁ := [a, b]))).book4 v0 v1 v2 v3).bperm (List.perm_middle (l₁ := [a, b])).symm
theorem Env.bback {w0 W : World} {R : List It} (B1 : List Bx) {b : Bx} {B2 : List Bx} (h : Env w0 (b :: (B1 ++ B2)) R W) : Env w0 (B1 ++ b :: B2) R W := h.bperm List.perm_middle.symm

set_option maxHeartbeats 8000000 in
set_option maxRecDepth 100000 in
theorem made_begin_err {w0 W : World} {B : List Bx} {gN : Nat} {bg ch : Nat → Bool} {s c t : Int} {A0 A1 : Option Addr} {p0 p1 : Nat} {l0 l1 : List S38} {fl : Bool} {x0 x1 x2 x3 : Int} {m r k : Nat} {tk tb : Int} (h : Env w0 (⟨gN, ncells bg ch s c, 56⟩ :: B) (⟨1, k38, 38, .slice A0 l0.length p0, l0⟩ :: ⟨2, k38, 38, .slice A1 l1.length p1, l1⟩ :: []) W) (hT : Tab w0) (hl0 : l0.length ≤ 6000000000000) (hl1 : l1.length ≤ 6000000000000)
    (hpk : winnowlaw19_picked.f x1 m r = some (tk, tb)) (hnu : winnowlaw19_number.f tk tb m = some (k : Int)) {r1 : Int} {r2 r3 : List S38} {r4 : Bool} {r5 : Int} {r6 : Bool} {r7 : Int} (hop : winnowlaw19_few.f x0 0 3 = some 0) (hb : beginP t l0 l1 fl tk tb = (r1, r2, r3, r4, r5, r6, r7)) (hne : r7 ≠ 0) :
    Calls Tryd.prog 35 #[.pointer (some ⟨gN, 0, none⟩), .agg #[.int .i64 t, .slice A0 l0.length p0, .slice A1 l1.length p1, .bool fl], .agg #[.int .i64 x0, .int .i64 x1, .int .i64 x2, .int .i64 x3], .int .i64 m, .int .i64 r] W fun e W' => e = .returned (.tuple #[.agg #[.int .i64 t, .slice A0 l0.length p0, .slice A1 l1.length p1, .bool fl], .bool true]) ∧ Env w0 (⟨gN, ncells bg ch s c, 56⟩ :: B) (⟨1, k38, 38, .slice A0 l0.length p0, l0⟩ :: ⟨2, k38, 38, .slice A1 l1.length p1, l1⟩ :: []) W' := by
  have HH := Aside0.mk h
  have HPK := Aside0.mk hpk
  have HNU := Aside0.mk hnu
  have HT := Aside0.mk hT
  have HL0 := Aside0.mk hl0
  have HL1 := Aside0.mk hl1
  have HOP := Aside0.mk hop
  have HB := Aside0.mk hb
  have HNE := Aside0.mk hne
  clear hpk hnu hT hl0 hl1 hop hb hne
  have z0 : (W.alloc (.cells #[.int .i64 t, .slice A0 l0.length p0, .slice A1 l1.length p1, .bool fl] 24)).heap.size = W.heap.size + 1 := by simp
  have z1 : ((W.alloc (.cells #[.int .i64 t, .slice A0 l0.length p0, .slice A1 l1.length p1, .bool fl] 24)).alloc (.cells #[.int .i64 x0, .int .i64 x1, .int .i64 x2, .int .i64 x3] 58)).heap.size = W.heap.size + 1 + 1 := by simp
  have hE0 := ((h.push #[.int .i64 t, .slice A0 l0.length p0, .slice A1 l1.length p1, .bool fl] 24).push #[.int .i64 x0, .int .i64 x1, .int .i64 x2, .int .i64 x3] 58).push #[.int .i64 0, .slice none 0 0, .slice none 0 0, .bool false] 24
  rw [z0, z1] at hE0
  clear z0 z1
  obtain ⟨g10, hg2⟩ : ∃ g, g = W.heap.size + 1 + 1 := ⟨_, rfl⟩
  obtain ⟨g2, hg1⟩ : ∃ g, g = W.heap.size + 1 := ⟨_, rfl⟩
  obtain ⟨g1, hg0⟩ : ∃ g, g = W.heap.size := ⟨_, rfl⟩
  rw [← hg2, ← hg1, ← hg0] at hE0
  obtain ⟨W0, hW0, hE⟩ : ∃ W0, ((W.alloc (.cells #[.int .i64 t, .slice A0 l0.length p0, .slice A1 l1.length p1, .bool fl] 24)).alloc (.cells #[.int .i64 x0, .int .i64 x1, .int .i64 x2, .int .i64 x3] 58)).alloc (.cells #[.int .i64 0, .slice none 0 0, .slice none 0 0, .bool false] 24) = W0 ∧ Env w0 _ _ W0 := ⟨_, rfl, hE0⟩
  have HG0 := Aside0.mk hg0
  have HG1 := Aside0.mk hg1
  have HG2 := Aside0.mk hg2
  have HW0 := Aside0.mk hW0
  have HE := Aside0.mk hE
  clear hE hE0 hW0 hg0 hg1 hg2
  clear h
  have hu24 := Tryd.underlying24
  have hu29 := Tryd.underlying29
  have hu56 := Tryd.underlying56
  have hu58 := Tryd.underlying58
  go_enter Tryd.func35, Tryd.ntmps35
  go_upto_region 1 with fail
  rw [← HG2.out, ← HG1.out, ← HG0.out, HW0.out]
  clear HW0 HG0 HG1 HG2
  have xg2_0 : W0.cell? ⟨g2, 0, none⟩ = some (.int .i64 x0) := HE.out.at_ 1 0 rfl rfl
  have xg2_1 : W0.cell? ⟨g2, 1, none⟩ = some (.int .i64 x1) := HE.out.at_ 1 1 rfl rfl
  have xg2_2 : W0.cell? ⟨g2, 2, none⟩ = some (.int .i64 x2) := HE.out.at_ 1 2 rfl rfl
  have xg2_3 : W0.cell? ⟨g2, 3, none⟩ = some (.int .i64 x3) := HE.out.at_ 1 3 rfl rfl
  go_wp2_with fail
  refine (winnowlaw19_picked.calls x1 m r tk tb _ HPK.out).mono ?_
  clear xg2_0 xg2_1 xg2_2 xg2_3
  rintro e w1 ⟨rfl, hB⟩
  have hE := HE.out.below hB
  clear HE hB
  have HE := Aside0.mk hE
  clear hE
  go_upto_region 2 with fail
  have hE := HE.out.push #[.int .i64 tk, .int .i64 tb] 29
  obtain ⟨g12, hg⟩ : ∃ g, g = w1.heap.size := ⟨_, rfl⟩
  rw [← hg] at hE ⊢
  generalize w1.alloc (.cells #[.int .i64 tk, .int .i64 tb] 29) = w2 at hE ⊢
  clear hg HE
  have HE := Aside0.mk hE
  clear hE
  have xg12_0 : w2.cell? ⟨g12, 0, none⟩ = some (.int .i64 tk) := HE.out.at_ 0 0 rfl rfl
  have xg12_1 : w2.cell? ⟨g12, 1, none⟩ = some (.int .i64 tb) := HE.out.at_ 0 1 rfl rfl
  go_wp2_with fail
  refine (winnowlaw19_number.calls tk tb m k _ HNU.out).mono ?_
  clear xg12_0 xg12_1
  rintro e w3 ⟨rfl, hB⟩
  have hE := HE.out.below hB
  clear HE hB
  have HE := Aside0.mk hE
  clear hE
  have xg2_0 : w3.cell? ⟨g2, 0, none⟩ = some (.int .i64 x0) := HE.out.at_ 2 0 rfl rfl
  have xg2_1 : w3.cell? ⟨g2, 1, none⟩ = some (.int .i64 x1) := HE.out.at_ 2 1 rfl rfl
  have xg2_2 : w3.cell? ⟨g2, 2, none⟩ = some (.int .i64 x2) := HE.out.at_ 2 2 rfl rfl
  have xg2_3 : w3.cell? ⟨g2, 3, none⟩ = some (.int .i64 x3) := HE.out.at_ 2 3 rfl rfl
  go_wp2_with fail
  refine (winnowlaw19_few.calls x0 0 3 0 _ HOP.out).mono ?_
  clear xg2_0 xg2_1 xg2_2 xg2_3
  rintro e w4 ⟨rfl, hB⟩
  have hE := HE.out.below hB.below
  clear HE hB
  have HE := Aside0.mk hE
  clear hE
  have xg1_0 : w4.cell? ⟨g1, 0, none⟩ = some (.int .i64 t) := HE.out.at_ 3 0 rfl rfl
  have xg1_1 : w4.cell? ⟨g1, 1, none⟩ = some (.slice A0 l0.length p0) := HE.out.at_ 3 1 rfl rfl
  have xg1_2 : w4.cell? ⟨g1, 2, none⟩ = some (.slice A1 l1.length p1) := HE.out.at_ 3 2 rfl rfl
  have xg1_3 : w4.cell? ⟨g1, 3, none⟩ = some (.bool fl) := HE.out.at_ 3 3 rfl rfl
  have xg12_0 : w4.cell? ⟨g12, 0, none⟩ = some (.int .i64 tk) := HE.out.at_ 0 0 rfl rfl
  have xg12_1 : w4.cell? ⟨g12, 1, none⟩ = some (.int .i64 tb) := HE.out.at_ 0 1 rfl rfl
  go_wp2_with fail
  refine (begin_any t fl _ _ l0 _ _ l1 tk tb r1 r2 r3 r4 r5 r6 r7 _ (HE.out.row_ 0 rfl) (HE.out.cap_ 0 rfl).2 (HE.out.row_ 1 rfl) HL0.out HL1.out (HE.out.tab HT.out) HB.out).mono ?_
  clear xg1_0 xg1_1 xg1_2 xg1_3 xg12_0 xg12_1
  rintro e w5 ⟨v0, v1, rfl, s0, s1, hB⟩
  have hE := HE.out.rows2 hB rfl s0 s1 3 4 (show ([3, 4, 1, 2] : List Nat).Nodup from by decide) (by decide) (by decide)
  obtain ⟨P0, q0_, rfl⟩ := Kd.R_slice s0
  obtain ⟨P1, q1_, rfl⟩ := Kd.R_slice s1
  clear hB s0 s1 HE
  have HE := Aside0.mk hE
  clear hE
  go_upto_region 6 with fail
  have hE := HE.out.push #[.int .i64 r1, .slice P0 r2.length q0_, .slice P1 r3.length q1_, .bool r4] 24
  obtain ⟨g14, hg⟩ : ∃ g, g = w5.heap.size := ⟨_, rfl⟩
  rw [← hg] at hE ⊢
  generalize w5.alloc (.cells #[.int .i64 r1, .slice P0 r2.length q0_, .slice P1 r3.length q1_, .bool r4] 24) = w6 at hE ⊢
  clear hg HE
  have HE := Aside0.mk hE
  clear hE
  have hE := HE.out.lose1.lose1
  clear HE
  have HE := Aside0.mk hE
  clear hE
  have ne_ : (r7 == 0) = false := by simpa using HNE.out
  have ne2_ : (r7 != 0) = true := by simpa using HNE.out
  have xg1_0 : w6.cell? ⟨g1, 0, none⟩ = some (.int .i64 t) := HE.out.at_ 4 0 rfl rfl
  have xg1_1 : w6.cell? ⟨g1, 1, none⟩ = some (.slice A0 l0.length p0) := HE.out.at_ 4 1 rfl rfl
  have xg1_2 : w6.cell? ⟨g1, 2, none⟩ = some (.slice A1 l1.length p1) := HE.out.at_ 4 2 rfl rfl
  have xg1_3 : w6.cell? ⟨g1, 3, none⟩ = some (.bool fl) := HE.out.at_ 4 3 rfl rfl
  have xg10_0 : w6.cell? ⟨g10, 0, none⟩ = some (.int .i64 0) := HE.out.at_ 2 0 rfl rfl
  have xg10_1 : w6.cell? ⟨g10, 1, none⟩ = some (.slice none 0 0) := HE.out.at_ 2 1 rfl rfl
  have xg10_2 : w6.cell? ⟨g10, 2, none⟩ = some (.slice none 0 0) := HE.out.at_ 2 2 rfl rfl
  have xg10_3 : w6.cell? ⟨g10, 3, none⟩ = some (.bool false) := HE.out.at_ 2 3 rfl rfl
  have fg10_0 : w6.frozen? ⟨g10, 0, none⟩ = false := HE.out.fr_ 2 0 rfl
  have fg10_1 : w6.frozen? ⟨g10, 1, none⟩ = false := HE.out.fr_ 2 1 rfl
  have fg10_2 : w6.frozen? ⟨g10, 2, none⟩ = false := HE.out.fr_ 2 2 rfl
  have fg10_3 : w6.frozen? ⟨g10, 3, none⟩ = false := HE.out.fr_ 2 3 rfl
  go_wp2_with fail
  have hE := (HE.out.sub (.cons _ (.cons _ (.cons_cons _ (.cons _ (.cons _ (List.Sublist.refl _)))))) (List.Sublist.refl _)).book4 (.int .i64 t) (.slice A0 l0.length p0) (.slice A1 l1.length p1) (.bool fl)
  clear xg1_0 xg1_1 xg1_2 xg1_3 xg10_0 xg10_1 xg10_2 xg10_3 fg10_0 fg10_1 fg10_2 fg10_3
  clear HE
  refine bodyPost_ret (results_ct rfl _ _ g10 24 #[.int .i64 t, .slice A0 l0.length p0, .slice A1 l1.length p1, .bool fl] (0, 0) _ rfl (hE.blk_ 0 rfl) Tryd.underlying24 rfl (by kernel_rfl)) rfl ?_
  exact ⟨by first | rfl | simp, hE.sub (.cons _ (List.Sublist.refl _)) (List.Sublist.refl _)⟩
set_option maxHeartbeats 8000000 in
set_option maxRecDepth 100000 in
theorem made_done_err {w0 W : World} {B : List Bx} {gN : Nat} {bg ch : Nat → Bool} {s c t : Int} {A0 A1 : Option Addr} {p0 p1 : Nat} {l0 l1 : List S38} {fl : Bool} {x0 x1 x2 x3 : Int} {m r k : Nat} {tk tb : Int} (h : Env w0 (⟨gN, ncells bg ch s c, 56⟩ :: B) (⟨1, k38, 38, .slice A0 l0.length p0, l0⟩ :: ⟨2, k38, 38, .slice A1 l1.length p1, l1⟩ :: []) W) (hT : Tab w0) (hl0 : l0.length ≤ 6000000000000) (hl1 : l1.length ≤ 6000000000000)
    (hpk : winnowlaw19_picked.f x1 m r = some (tk, tb)) (hnu : winnowlaw19_number.f tk tb m = some (k : Int)) {r1 : Int} {r2 r3 : List S38} {r4 : Bool} {r5 : Int} (hop : winnowlaw19_few.f x0 0 3 = some 1) (hb : doneP t l0 l1 fl tk tb = (r1, r2, r3, r4, r5)) (hne : r5 ≠ 0) :
    Calls Tryd.prog 35 #[.pointer (some ⟨gN, 0, none⟩), .agg #[.int .i64 t, .slice A0 l0.length p0, .slice A1 l1.length p1, .bool fl], .agg #[.int .i64 x0, .int .i64 x1, .int .i64 x2, .int .i64 x3], .int .i64 m, .int .i64 r] W fun e W' => e = .returned (.tuple #[.agg #[.int .i64 t, .slice A0 l0.length p0, .slice A1 l1.length p1, .bool fl], .bool true]) ∧ Env w0 (⟨gN, ncells bg ch s c, 56⟩ :: B) (⟨1, k38, 38, .slice A0 l0.length p0, l0⟩ :: ⟨2, k38, 38, .slice A1 l1.length p1, l1⟩ :: []) W' := by
  have HH := Aside0.mk h
  have HPK := Aside0.mk hpk
  have HNU := Aside0.mk hnu
  have HT := Aside0.mk hT
  have HL0 := Aside0.mk hl0
  have HL1 := Aside0.mk hl1
  have HOP := Aside0.mk hop
  have HB := Aside0.mk hb
  have HNE := Aside0.mk hne
  clear hpk hnu hT hl0 hl1 hop hb hne
  have z0 : (W.alloc (.cells #[.int .i64 t, .slice A0 l0.length p0, .slice A1 l1.length p1, .bool fl] 24)).heap.size = W.heap.size + 1 := by simp
  have z1 : ((W.alloc (.cells #[.int .i64 t, .slice A0 l0.length p0, .slice A1 l1.length p1, .bool fl] 24)).alloc (.cells #[.int .i64 x0, .int .i64 x1, .int .i64 x2, .int .i64 x3] 58)).heap.size = W.heap.size + 1 + 1 := by simp
  have hE0 := ((h.push #[.int .i64 t, .slice A0 l0.length p0, .slice A1 l1.length p1, .bool fl] 24).push #[.int .i64 x0, .int .i64 x1, .int .i64 x2, .int .i64 x3] 58).push #[.int .i64 0, .slice none 0 0, .slice none 0 0, .bool false] 24
  rw [z0, z1] at hE0
  clear z0 z1
  obtain ⟨g10, hg2⟩ : ∃ g, g = W.heap.size + 1 + 1 := ⟨_, rfl⟩
  obtain ⟨g2, hg1⟩ : ∃ g, g = W.heap.size + 1 := ⟨_, rfl⟩
  obtain ⟨g1, hg0⟩ : ∃ g, g = W.heap.size := ⟨_, rfl⟩
  rw [← hg2, ← hg1, ← hg0] at hE0
  obtain ⟨W0, hW0, hE⟩ : ∃ W0, ((W.alloc (.cells #[.int .i64 t, .slice A0 l0.length p0, .slice A1 l1.length p1, .bool fl] 24)).alloc (.cells #[.int .i64 x0, .int .i64 x1, .int .i64 x2, .int .i64 x3] 58)).alloc (.cells #[.int .i64 0, .slice none 0 0, .slice none 0 0, .bool false] 24) = W0 ∧ Env w0 _ _ W0 := ⟨_, rfl, hE0⟩
  have HG0 := Aside0.mk hg0
  have HG1 := Aside0.mk hg1
  have HG2 := Aside0.mk hg2
  have HW0 := Aside0.mk hW0
  have HE := Aside0.mk hE
  clear hE hE0 hW0 hg0 hg1 hg2
  clear h
  have hu24 := Tryd.underlying24
  have hu29 := Tryd.underlying29
  have hu56 := Tryd.underlying56
  have hu58 := Tryd.underlying58
  go_enter Tryd.func35, Tryd.ntmps35
  go_upto_region 1 with fail
  rw [← HG2.out, ← HG1.out, ← HG0.out, HW0.out]
  clear HW0 HG0 HG1 HG2
  have xg2_0 : W0.cell? ⟨g2, 0, none⟩ = some (.int .i64 x0) := HE.out.at_ 1 0 rfl rfl
  have xg2_1 : W0.cell? ⟨g2, 1, none⟩ = some (.int .i64 x1) := HE.out.at_ 1 1 rfl rfl
  have xg2_2 : W0.cell? ⟨g2, 2, none⟩ = some (.int .i64 x2) := HE.out.at_ 1 2 rfl rfl
  have xg2_3 : W0.cell? ⟨g2, 3, none⟩ = some (.int .i64 x3) := HE.out.at_ 1 3 rfl rfl
  go_wp2_with fail
  refine (winnowlaw19_picked.calls x1 m r tk tb _ HPK.out).mono ?_
  clear xg2_0 xg2_1 xg2_2 xg2_3
  rintro e w1 ⟨rfl, hB⟩
  have hE := HE.out.below hB
  clear HE hB
  have HE := Aside0.mk hE
  clear hE
  go_upto_region 2 with fail
  have hE := HE.out.push #[.int .i64 tk, .int .i64 tb] 29
  obtain ⟨g12, hg⟩ : ∃ g, g = w1.heap.size := ⟨_, rfl⟩
  rw [← hg] at hE ⊢
  generalize w1.alloc (.cells #[.int .i64 tk, .int .i64 tb] 29) = w2 at hE ⊢
  clear hg HE
  have HE := Aside0.mk hE
  clear hE
  have xg12_0 : w2.cell? ⟨g12, 0, none⟩ = some (.int .i64 tk) := HE.out.at_ 0 0 rfl rfl
  have xg12_1 : w2.cell? ⟨g12, 1, none⟩ = some (.int .i64 tb) := HE.out.at_ 0 1 rfl rfl
  go_wp2_with fail
  refine (winnowlaw19_number.calls tk tb m k _ HNU.out).mono ?_
  clear xg12_0 xg12_1
  rintro e w3 ⟨rfl, hB⟩
  have hE := HE.out.below hB
  clear HE hB
  have HE := Aside0.mk hE
  clear hE
  have xg2_0 : w3.cell? ⟨g2, 0, none⟩ = some (.int .i64 x0) := HE.out.at_ 2 0 rfl rfl
  have xg2_1 : w3.cell? ⟨g2, 1, none⟩ = some (.int .i64 x1) := HE.out.at_ 2 1 rfl rfl
  have xg2_2 : w3.cell? ⟨g2, 2, none⟩ = some (.int .i64 x2) := HE.out.at_ 2 2 rfl rfl
  have xg2_3 : w3.cell? ⟨g2, 3, none⟩ = some (.int .i64 x3) := HE.out.at_ 2 3 rfl rfl
  go_wp2_with fail
  refine (winnowlaw19_few.calls x0 0 3 1 _ HOP.out).mono ?_
  clear xg2_0 xg2_1 xg2_2 xg2_3
  rintro e w4 ⟨rfl, hB⟩
  have hE := HE.out.below hB.below
  clear HE hB
  have HE := Aside0.mk hE
  clear hE
  have xg1_0 : w4.cell? ⟨g1, 0, none⟩ = some (.int .i64 t) := HE.out.at_ 3 0 rfl rfl
  have xg1_1 : w4.cell? ⟨g1, 1, none⟩ = some (.slice A0 l0.length p0) := HE.out.at_ 3 1 rfl rfl
  have xg1_2 : w4.cell? ⟨g1, 2, none⟩ = some (.slice A1 l1.length p1) := HE.out.at_ 3 2 rfl rfl
  have xg1_3 : w4.cell? ⟨g1, 3, none⟩ = some (.bool fl) := HE.out.at_ 3 3 rfl rfl
  have xg12_0 : w4.cell? ⟨g12, 0, none⟩ = some (.int .i64 tk) := HE.out.at_ 0 0 rfl rfl
  have xg12_1 : w4.cell? ⟨g12, 1, none⟩ = some (.int .i64 tb) := HE.out.at_ 0 1 rfl rfl
  go_wp2_with fail
  refine (done_any t fl _ _ l0 _ _ l1 tk tb r1 r2 r3 r4 r5 _ (HE.out.row_ 0 rfl) (HE.out.row_ 1 rfl) HL0.out HL1.out (HE.out.tab HT.out) HB.out).mono ?_
  clear xg1_0 xg1_1 xg1_2 xg1_3 xg12_0 xg12_1
  rintro e w5 ⟨v0, v1, rfl, s0, s1, hB⟩
  have hE := HE.out.rows2 hB rfl s0 s1 3 4 (show ([3, 4, 1, 2] : List Nat).Nodup from by decide) (by decide) (by decide)
  obtain ⟨P0, q0_, rfl⟩ := Kd.R_slice s0
  obtain ⟨P1, q1_, rfl⟩ := Kd.R_slice s1
  clear hB s0 s1 HE
  have HE := Aside0.mk hE
  clear hE
  go_upto_region 11 with fail
  have hE := HE.out.push #[.int .i64 r1, .slice P0 r2.length q0_, .slice P1 r3.length q1_, .bool r4] 24
  obtain ⟨g18, hg⟩ : ∃ g, g = w5.heap.size := ⟨_, rfl⟩
  rw [← hg] at hE ⊢
  generalize w5.alloc (.cells #[.int .i64 r1, .slice P0 r2.length q0_, .slice P1 r3.length q1_, .bool r4] 24) = w6 at hE ⊢
  clear hg HE
  have HE := Aside0.mk hE
  clear hE
  have hE := HE.out.lose1.lose1
  clear HE
  have HE := Aside0.mk hE
  clear hE
  have ne_ : (r5 == 0) = false := by simpa using HNE.out
  have ne2_ : (r5 != 0) = true := by simpa using HNE.out
  have xg1_0 : w6.cell? ⟨g1, 0, none⟩ = some (.int .i64 t) := HE.out.at_ 4 0 rfl rfl
  have xg1_1 : w6.cell? ⟨g1, 1, none⟩ = some (.slice A0 l0.length p0) := HE.out.at_ 4 1 rfl rfl
  have xg1_2 : w6.cell? ⟨g1, 2, none⟩ = some (.slice A1 l1.length p1) := HE.out.at_ 4 2 rfl rfl
  have xg1_3 : w6.cell? ⟨g1, 3, none⟩ = some (.bool fl) := HE.out.at_ 4 3 rfl rfl
  have xg10_0 : w6.cell? ⟨g10, 0, none⟩ = some (.int .i64 0) := HE.out.at_ 2 0 rfl rfl
  have xg10_1 : w6.cell? ⟨g10, 1, none⟩ = some (.slice none 0 0) := HE.out.at_ 2 1 rfl rfl
  have xg10_2 : w6.cell? ⟨g10, 2, none⟩ = some (.slice none 0 0) := HE.out.at_ 2 2 rfl rfl
  have xg10_3 : w6.cell? ⟨g10, 3, none⟩ = some (.bool false) := HE.out.at_ 2 3 rfl rfl
  have fg10_0 : w6.frozen? ⟨g10, 0, none⟩ = false := HE.out.fr_ 2 0 rfl
  have fg10_1 : w6.frozen? ⟨g10, 1, none⟩ = false := HE.out.fr_ 2 1 rfl
  have fg10_2 : w6.frozen? ⟨g10, 2, none⟩ = false := HE.out.fr_ 2 2 rfl
  have fg10_3 : w6.frozen? ⟨g10, 3, none⟩ = false := HE.out.fr_ 2 3 rfl
  go_wp2_with fail
  have hE := (HE.out.sub (.cons _ (.cons _ (.cons_cons _ (.cons _ (.cons _ (List.Sublist.refl _)))))) (List.Sublist.refl _)).book4 (.int .i64 t) (.slice A0 l0.length p0) (.slice A1 l1.length p1) (.bool fl)
  clear xg1_0 xg1_1 xg1_2 xg1_3 xg10_0 xg10_1 xg10_2 xg10_3 fg10_0 fg10_1 fg10_2 fg10_3
  clear HE
  refine bodyPost_ret (results_ct rfl _ _ g10 24 #[.int .i64 t, .slice A0 l0.length p0, .slice A1 l1.length p1, .bool fl] (0, 0) _ rfl (hE.blk_ 0 rfl) Tryd.underlying24 rfl (by kernel_rfl)) rfl ?_
  exact ⟨by first | rfl | simp, hE.sub (.cons _ (List.Sublist.refl _)) (List.Sublist.refl _)⟩
set_option maxHeartbeats 8000000 in
set_option maxRecDepth 100000 in
theorem made_died_err {w0 W : World} {B : List Bx} {gN : Nat} {bg ch : Nat → Bool} {s c t : Int} {A0 A1 : Option Addr} {p0 p1 : Nat} {l0 l1 : List S38} {fl : Bool} {x0 x1 x2 x3 : Int} {m r k : Nat} {tk tb : Int} (h : Env w0 (⟨gN, ncells bg ch s c, 56⟩ :: B) (⟨1, k38, 38, .slice A0 l0.length p0, l0⟩ :: ⟨2, k38, 38, .slice A1 l1.length p1, l1⟩ :: []) W) (hT : Tab w0) (hl0 : l0.length ≤ 6000000000000) (hl1 : l1.length ≤ 6000000000000)
    (hpk : winnowlaw19_picked.f x1 m r = some (tk, tb)) (hnu : winnowlaw19_number.f tk tb m = some (k : Int)) {r1 : Int} {r2 r3 : List S38} {r4 : Bool} {r5 : Int} (hop : winnowlaw19_few.f x0 0 3 = some 2) (hb : diedP t l0 l1 fl tk tb = (r1, r2, r3, r4, r5)) (hne : r5 ≠ 0) :
    Calls Tryd.prog 35 #[.pointer (some ⟨gN, 0, none⟩), .agg #[.int .i64 t, .slice A0 l0.length p0, .slice A1 l1.length p1, .bool fl], .agg #[.int .i64 x0, .int .i64 x1, .int .i64 x2, .int .i64 x3], .int .i64 m, .int .i64 r] W fun e W' => e = .returned (.tuple #[.agg #[.int .i64 t, .slice A0 l0.length p0, .slice A1 l1.length p1, .bool fl], .bool true]) ∧ Env w0 (⟨gN, ncells bg ch s c, 56⟩ :: B) (⟨1, k38, 38, .slice A0 l0.length p0, l0⟩ :: ⟨2, k38, 38, .slice A1 l1.length p1, l1⟩ :: []) W' := by
  have HH := Aside0.mk h
  have HPK := Aside0.mk hpk
  have HNU := Aside0.mk hnu
  have HT := Aside0.mk hT
  have HL0 := Aside0.mk hl0
  have HL1 := Aside0.mk hl1
  have HOP := Aside0.mk hop
  have HB := Aside0.mk hb
  have HNE := Aside0.mk hne
  clear hpk hnu hT hl0 hl1 hop hb hne
  have z0 : (W.alloc (.cells #[.int .i64 t, .slice A0 l0.length p0, .slice A1 l1.length p1, .bool fl] 24)).heap.size = W.heap.size + 1 := by simp
  have z1 : ((W.alloc (.cells #[.int .i64 t, .slice A0 l0.length p0, .slice A1 l1.length p1, .bool fl] 24)).alloc (.cells #[.int .i64 x0, .int .i64 x1, .int .i64 x2, .int .i64 x3] 58)).heap.size = W.heap.size + 1 + 1 := by simp
  have hE0 := ((h.push #[.int .i64 t, .slice A0 l0.length p0, .slice A1 l1.length p1, .bool fl] 24).push #[.int .i64 x0, .int .i64 x1, .int .i64 x2, .int .i64 x3] 58).push #[.int .i64 0, .slice none 0 0, .slice none 0 0, .bool false] 24
  rw [z0, z1] at hE0
  clear z0 z1
  obtain ⟨g10, hg2⟩ : ∃ g, g = W.heap.size + 1 + 1 := ⟨_, rfl⟩
  obtain ⟨g2, hg1⟩ : ∃ g, g = W.heap.size + 1 := ⟨_, rfl⟩
  obtain ⟨g1, hg0⟩ : ∃ g, g = W.heap.size := ⟨_, rfl⟩
  rw [← hg2, ← hg1, ← hg0] at hE0
  obtain ⟨W0, hW0, hE⟩ : ∃ W0, ((W.alloc (.cells #[.int .i64 t, .slice A0 l0.length p0, .slice A1 l1.length p1, .bool fl] 24)).alloc (.cells #[.int .i64 x0, .int .i64 x1, .int .i64 x2, .int .i64 x3] 58)).alloc (.cells #[.int .i64 0, .slice none 0 0, .slice none 0 0, .bool false] 24) = W0 ∧ Env w0 _ _ W0 := ⟨_, rfl, hE0⟩
  have HG0 := Aside0.mk hg0
  have HG1 := Aside0.mk hg1
  have HG2 := Aside0.mk hg2
  have HW0 := Aside0.mk hW0
  have HE := Aside0.mk hE
  clear hE hE0 hW0 hg0 hg1 hg2
  clear h
  have hu24 := Tryd.underlying24
  have hu29 := Tryd.underlying29
  have hu56 := Tryd.underlying56
  have hu58 := Tryd.underlying58
  go_enter Tryd.func35, Tryd.ntmps35
  go_upto_region 1 with fail
  rw [← HG2.out, ← HG1.out, ← HG0.out, HW0.out]
  clear HW0 HG0 HG1 HG2
  have xg2_0 : W0.cell? ⟨g2, 0, none⟩ = some (.int .i64 x0) := HE.out.at_ 1 0 rfl rfl
  have xg2_1 : W0.cell? ⟨g2, 1, none⟩ = some (.int .i64 x1) := HE.out.at_ 1 1 rfl rfl
  have xg2_2 : W0.cell? ⟨g2, 2, none⟩ = some (.int .i64 x2) := HE.out.at_ 1 2 rfl rfl
  have xg2_3 : W0.cell? ⟨g2, 3, none⟩ = some (.int .i64 x3) := HE.out.at_ 1 3 rfl rfl
  go_wp2_with fail
  refine (winnowlaw19_picked.calls x1 m r tk tb _ HPK.out).mono ?_
  clear xg2_0 xg2_1 xg2_2 xg2_3
  rintro e w1 ⟨rfl, hB⟩
  have hE := HE.out.below hB
  clear HE hB
  have HE := Aside0.mk hE
  clear hE
  go_upto_region 2 with fail
  have hE := HE.out.push #[.int .i64 tk, .int .i64 tb] 29
  obtain ⟨g12, hg⟩ : ∃ g, g = w1.heap.size := ⟨_, rfl⟩
  rw [← hg] at hE ⊢
  generalize w1.alloc (.cells #[.int .i64 tk, .int .i64 tb] 29) = w2 at hE ⊢
  clear hg HE
  have HE := Aside0.mk hE
  clear hE
  have xg12_0 : w2.cell? ⟨g12, 0, none⟩ = some (.int .i64 tk) := HE.out.at_ 0 0 rfl rfl
  have xg12_1 : w2.cell? ⟨g12, 1, none⟩ = some (.int .i64 tb) := HE.out.at_ 0 1 rfl rfl
  go_wp2_with fail
  refine (winnowlaw19_number.calls tk tb m k _ HNU.out).mono ?_
  clear xg12_0 xg12_1
  rintro e w3 ⟨rfl, hB⟩
  have hE := HE.out.below hB
  clear HE hB
  have HE := Aside0.mk hE
  clear hE
  have xg2_0 : w3.cell? ⟨g2, 0, none⟩ = some (.int .i64 x0) := HE.out.at_ 2 0 rfl rfl
  have xg2_1 : w3.cell? ⟨g2, 1, none⟩ = some (.int .i64 x1) := HE.out.at_ 2 1 rfl rfl
  have xg2_2 : w3.cell? ⟨g2, 2, none⟩ = some (.int .i64 x2) := HE.out.at_ 2 2 rfl rfl
  have xg2_3 : w3.cell? ⟨g2, 3, none⟩ = some (.int .i64 x3) := HE.out.at_ 2 3 rfl rfl
  go_wp2_with fail
  refine (winnowlaw19_few.calls x0 0 3 2 _ HOP.out).mono ?_
  clear xg2_0 xg2_1 xg2_2 xg2_3
  rintro e w4 ⟨rfl, hB⟩
  have hE := HE.out.below hB.below
  clear HE hB
  have HE := Aside0.mk hE
  clear hE
  have xg1_0 : w4.cell? ⟨g1, 0, none⟩ = some (.int .i64 t) := HE.out.at_ 3 0 rfl rfl
  have xg1_1 : w4.cell? ⟨g1, 1, none⟩ = some (.slice A0 l0.length p0) := HE.out.at_ 3 1 rfl rfl
  have xg1_2 : w4.cell? ⟨g1, 2, none⟩ = some (.slice A1 l1.length p1) := HE.out.at_ 3 2 rfl rfl
  have xg1_3 : w4.cell? ⟨g1, 3, none⟩ = some (.bool fl) := HE.out.at_ 3 3 rfl rfl
  have xg12_0 : w4.cell? ⟨g12, 0, none⟩ = some (.int .i64 tk) := HE.out.at_ 0 0 rfl rfl
  have xg12_1 : w4.cell? ⟨g12, 1, none⟩ = some (.int .i64 tb) := HE.out.at_ 0 1 rfl rfl
  go_wp2_with fail
  refine (died_any t fl _ _ l0 _ _ l1 tk tb r1 r2 r3 r4 r5 _ (HE.out.row_ 0 rfl) (HE.out.row_ 1 rfl) HL0.out HL1.out (HE.out.tab HT.out) HB.out).mono ?_
  clear xg1_0 xg1_1 xg1_2 xg1_3 xg12_0 xg12_1
  rintro e w5 ⟨v0, v1, rfl, s0, s1, hB⟩
  have hE := HE.out.rows2 hB rfl s0 s1 3 4 (show ([3, 4, 1, 2] : List Nat).Nodup from by decide) (by decide) (by decide)
  obtain ⟨P0, q0_, rfl⟩ := Kd.R_slice s0
  obtain ⟨P1, q1_, rfl⟩ := Kd.R_slice s1
  clear hB s0 s1 HE
  have HE := Aside0.mk hE
  clear hE
  go_upto_region 16 with fail
  have hE := HE.out.push #[.int .i64 r1, .slice P0 r2.length q0_, .slice P1 r3.length q1_, .bool r4] 24
  obtain ⟨g20, hg⟩ : ∃ g, g = w5.heap.size := ⟨_, rfl⟩
  rw [← hg] at hE ⊢
  generalize w5.alloc (.cells #[.int .i64 r1, .slice P0 r2.length q0_, .slice P1 r3.length q1_, .bool r4] 24) = w6 at hE ⊢
  clear hg HE
  have HE := Aside0.mk hE
  clear hE
  have hE := HE.out.lose1.lose1
  clear HE
  have HE := Aside0.mk hE
  clear hE
  have ne_ : (r5 == 0) = false := by simpa using HNE.out
  have ne2_ : (r5 != 0) = true := by simpa using HNE.out
  have xg1_0 : w6.cell? ⟨g1, 0, none⟩ = some (.int .i64 t) := HE.out.at_ 4 0 rfl rfl
  have xg1_1 : w6.cell? ⟨g1, 1, none⟩ = some (.slice A0 l0.length p0) := HE.out.at_ 4 1 rfl rfl
  have xg1_2 : w6.cell? ⟨g1, 2, none⟩ = some (.slice A1 l1.length p1) := HE.out.at_ 4 2 rfl rfl
  have xg1_3 : w6.cell? ⟨g1, 3, none⟩ = some (.bool fl) := HE.out.at_ 4 3 rfl rfl
  have xg10_0 : w6.cell? ⟨g10, 0, none⟩ = some (.int .i64 0) := HE.out.at_ 2 0 rfl rfl
  have xg10_1 : w6.cell? ⟨g10, 1, none⟩ = some (.slice none 0 0) := HE.out.at_ 2 1 rfl rfl
  have xg10_2 : w6.cell? ⟨g10, 2, none⟩ = some (.slice none 0 0) := HE.out.at_ 2 2 rfl rfl
  have xg10_3 : w6.cell? ⟨g10, 3, none⟩ = some (.bool false) := HE.out.at_ 2 3 rfl rfl
  have fg10_0 : w6.frozen? ⟨g10, 0, none⟩ = false := HE.out.fr_ 2 0 rfl
  have fg10_1 : w6.frozen? ⟨g10, 1, none⟩ = false := HE.out.fr_ 2 1 rfl
  have fg10_2 : w6.frozen? ⟨g10, 2, none⟩ = false := HE.out.fr_ 2 2 rfl
  have fg10_3 : w6.frozen? ⟨g10, 3, none⟩ = false := HE.out.fr_ 2 3 rfl
  go_wp2_with fail
  have hE := (HE.out.sub (.cons _ (.cons _ (.cons_cons _ (.cons _ (.cons _ (List.Sublist.refl _)))))) (List.Sublist.refl _)).book4 (.int .i64 t) (.slice A0 l0.length p0) (.slice A1 l1.length p1) (.bool fl)
  clear xg1_0 xg1_1 xg1_2 xg1_3 xg10_0 xg10_1 xg10_2 xg10_3 fg10_0 fg10_1 fg10_2 fg10_3
  clear HE
  refine bodyPost_ret (results_ct rfl _ _ g10 24 #[.int .i64 t, .slice A0 l0.length p0, .slice A1 l1.length p1, .bool fl] (0, 0) _ rfl (hE.blk_ 0 rfl) Tryd.underlying24 rfl (by kernel_rfl)) rfl ?_
  exact ⟨by first | rfl | simp, hE.sub (.cons _ (List.Sublist.refl _)) (List.Sublist.refl _)⟩
set_option maxHeartbeats 8000000 in
set_option maxRecDepth 100000 in
theorem made_blame_none {w0 W : World} {B : List Bx} {gN : Nat} {bg ch : Nat → Bool} {s c t : Int} {A0 A1 : Option Addr} {p0 p1 : Nat} {l0 l1 : List S38} {fl : Bool} {x0 x1 x2 x3 : Int} {m r k : Nat} {tk tb : Int} (h : Env w0 (⟨gN, ncells bg ch s c, 56⟩ :: B) (⟨1, k38, 38, .slice A0 l0.length p0, l0⟩ :: ⟨2, k38, 38, .slice A1 l1.length p1, l1⟩ :: []) W) (hT : Tab w0) (hl0 : l0.length ≤ 6000000000000) (hl1 : l1.length ≤ 6000000000000)
    (hpk : winnowlaw19_picked.f x1 m r = some (tk, tb)) (hnu : winnowlaw19_number.f tk tb m = some (k : Int)) (hop : winnowlaw19_few.f x0 0 3 = some 3) (hm : ((m : Int) == 0) = true) :
    Calls Tryd.prog 35 #[.pointer (some ⟨gN, 0, none⟩), .agg #[.int .i64 t, .slice A0 l0.length p0, .slice A1 l1.length p1, .bool fl], .agg #[.int .i64 x0, .int .i64 x1, .int .i64 x2, .int .i64 x3], .int .i64 m, .int .i64 r] W fun e W' => e = .returned (.tuple #[.agg #[.int .i64 t, .slice A0 l0.length p0, .slice A1 l1.length p1, .bool fl], .bool true]) ∧ Env w0 (⟨gN, ncells bg ch s c, 56⟩ :: B) (⟨1, k38, 38, .slice A0 l0.length p0, l0⟩ :: ⟨2, k38, 38, .slice A1 l1.length p1, l1⟩ :: []) W' := by
  have HH := Aside0.mk h
  have HPK := Aside0.mk hpk
  have HNU := Aside0.mk hnu
  have HT := Aside0.mk hT
  have HL0 := Aside0.mk hl0
  have HL1 := Aside0.mk hl1
  have HOP := Aside0.mk hop
  have HM := Aside0.mk hm
  clear hpk hnu hT hl0 hl1 hop hm
  have z0 : (W.alloc (.cells #[.int .i64 t, .slice A0 l0.length p0, .slice A1 l1.length p1, .bool fl] 24)).heap.size = W.heap.size + 1 := by simp
  have z1 : ((W.alloc (.cells #[.int .i64 t, .slice A0 l0.length p0, .slice A1 l1.length p1, .bool fl] 24)).alloc (.cells #[.int .i64 x0, .int .i64 x1, .int .i64 x2, .int .i64 x3] 58)).heap.size = W.heap.size + 1 + 1 := by simp
  have hE0 := ((h.push #[.int .i64 t, .slice A0 l0.length p0, .slice A1 l1.length p1, .bool fl] 24).push #[.int .i64 x0, .int .i64 x1, .int .i64 x2, .int .i64 x3] 58).push #[.int .i64 0, .slice none 0 0, .slice none 0 0, .bool false] 24
  rw [z0, z1] at hE0
  clear z0 z1
  obtain ⟨g10, hg2⟩ : ∃ g, g = W.heap.size + 1 + 1 := ⟨_, rfl⟩
  obtain ⟨g2, hg1⟩ : ∃ g, g = W.heap.size + 1 := ⟨_, rfl⟩
  obtain ⟨g1, hg0⟩ : ∃ g, g = W.heap.size := ⟨_, rfl⟩
  rw [← hg2, ← hg1, ← hg0] at hE0
  obtain ⟨W0, hW0, hE⟩ : ∃ W0, ((W.alloc (.cells #[.int .i64 t, .slice A0 l0.length p0, .slice A1 l1.length p1, .bool fl] 24)).alloc (.cells #[.int .i64 x0, .int .i64 x1, .int .i64 x2, .int .i64 x3] 58)).alloc (.cells #[.int .i64 0, .slice none 0 0, .slice none 0 0, .bool false] 24) = W0 ∧ Env w0 _ _ W0 := ⟨_, rfl, hE0⟩
  have HG0 := Aside0.mk hg0
  have HG1 := Aside0.mk hg1
  have HG2 := Aside0.mk hg2
  have HW0 := Aside0.mk hW0
  have HE := Aside0.mk hE
  clear hE hE0 hW0 hg0 hg1 hg2
  clear h
  have hu24 := Tryd.underlying24
  have hu29 := Tryd.underlying29
  have hu56 := Tryd.underlying56
  have hu58 := Tryd.underlying58
  go_enter Tryd.func35, Tryd.ntmps35
  go_upto_region 1 with fail
  rw [← HG2.out, ← HG1.out, ← HG0.out, HW0.out]
  clear HW0 HG0 HG1 HG2
  have xg2_0 : W0.cell? ⟨g2, 0, none⟩ = some (.int .i64 x0) := HE.out.at_ 1 0 rfl rfl
  have xg2_1 : W0.cell? ⟨g2, 1, none⟩ = some (.int .i64 x1) := HE.out.at_ 1 1 rfl rfl
  have xg2_2 : W0.cell? ⟨g2, 2, none⟩ = some (.int .i64 x2) := HE.out.at_ 1 2 rfl rfl
  have xg2_3 : W0.cell? ⟨g2, 3, none⟩ = some (.int .i64 x3) := HE.out.at_ 1 3 rfl rfl
  go_wp2_with fail
  refine (winnowlaw19_picked.calls x1 m r tk tb _ HPK.out).mono ?_
  clear xg2_0 xg2_1 xg2_2 xg2_3
  rintro e w1 ⟨rfl, hB⟩
  have hE := HE.out.below hB
  clear HE hB
  have HE := Aside0.mk hE
  clear hE
  go_upto_region 2 with fail
  have hE := HE.out.push #[.int .i64 tk, .int .i64 tb] 29
  obtain ⟨g12, hg⟩ : ∃ g, g = w1.heap.size := ⟨_, rfl⟩
  rw [← hg] at hE ⊢
  generalize w1.alloc (.cells #[.int .i64 tk, .int .i64 tb] 29) = w2 at hE ⊢
  clear hg HE
  have HE := Aside0.mk hE
  clear hE
  have xg12_0 : w2.cell? ⟨g12, 0, none⟩ = some (.int .i64 tk) := HE.out.at_ 0 0 rfl rfl
  have xg12_1 : w2.cell? ⟨g12, 1, none⟩ = some (.int .i64 tb) := HE.out.at_ 0 1 rfl rfl
  go_wp2_with fail
  refine (winnowlaw19_number.calls tk tb m k _ HNU.out).mono ?_
  clear xg12_0 xg12_1
  rintro e w3 ⟨rfl, hB⟩
  have hE := HE.out.below hB
  clear HE hB
  have HE := Aside0.mk hE
  clear hE
  have xg2_0 : w3.cell? ⟨g2, 0, none⟩ = some (.int .i64 x0) := HE.out.at_ 2 0 rfl rfl
  have xg2_1 : w3.cell? ⟨g2, 1, none⟩ = some (.int .i64 x1) := HE.out.at_ 2 1 rfl rfl
  have xg2_2 : w3.cell? ⟨g2, 2, none⟩ = some (.int .i64 x2) := HE.out.at_ 2 2 rfl rfl
  have xg2_3 : w3.cell? ⟨g2, 3, none⟩ = some (.int .i64 x3) := HE.out.at_ 2 3 rfl rfl
  go_wp2_with fail
  refine (winnowlaw19_few.calls x0 0 3 3 _ HOP.out).mono ?_
  clear xg2_0 xg2_1 xg2_2 xg2_3
  rintro e w4 ⟨rfl, hB⟩
  have hE := HE.out.below hB.below
  clear HE hB
  have HE := Aside0.mk hE
  clear hE
  have hm_ := HM.out
  have xg1_0 : w4.cell? ⟨g1, 0, none⟩ = some (.int .i64 t) := HE.out.at_ 3 0 rfl rfl
  have xg1_1 : w4.cell? ⟨g1, 1, none⟩ = some (.slice A0 l0.length p0) := HE.out.at_ 3 1 rfl rfl
  have xg1_2 : w4.cell? ⟨g1, 2, none⟩ = some (.slice A1 l1.length p1) := HE.out.at_ 3 2 rfl rfl
  have xg1_3 : w4.cell? ⟨g1, 3, none⟩ = some (.bool fl) := HE.out.at_ 3 3 rfl rfl
  have xg10_0 : w4.cell? ⟨g10, 0, none⟩ = some (.int .i64 0) := HE.out.at_ 1 0 rfl rfl
  have xg10_1 : w4.cell? ⟨g10, 1, none⟩ = some (.slice none 0 0) := HE.out.at_ 1 1 rfl rfl
  have xg10_2 : w4.cell? ⟨g10, 2, none⟩ = some (.slice none 0 0) := HE.out.at_ 1 2 rfl rfl
  have xg10_3 : w4.cell? ⟨g10, 3, none⟩ = some (.bool false) := HE.out.at_ 1 3 rfl rfl
  have fg10_0 : w4.frozen? ⟨g10, 0, none⟩ = false := HE.out.fr_ 1 0 rfl
  have fg10_1 : w4.frozen? ⟨g10, 1, none⟩ = false := HE.out.fr_ 1 1 rfl
  have fg10_2 : w4.frozen? ⟨g10, 2, none⟩ = false := HE.out.fr_ 1 2 rfl
  have fg10_3 : w4.frozen? ⟨g10, 3, none⟩ = false := HE.out.fr_ 1 3 rfl
  go_wp2_with fail
  have hE := (HE.out.sub (.cons _ (.cons_cons _ (.cons _ (.cons _ (List.Sublist.refl _))))) (List.Sublist.refl _)).book4 (.int .i64 t) (.slice A0 l0.length p0) (.slice A1 l1.length p1) (.bool fl)
  clear xg1_0 xg1_1 xg1_2 xg1_3 xg10_0 xg10_1 xg10_2 xg10_3 fg10_0 fg10_1 fg10_2 fg10_3
  clear HE
  refine bodyPost_ret (results_ct rfl _ _ g10 24 #[.int .i64 t, .slice A0 l0.length p0, .slice A1 l1.length p1, .bool fl] (0, 0) _ rfl (hE.blk_ 0 rfl) Tryd.underlying24 rfl (by kernel_rfl)) rfl ?_
  exact ⟨by first | rfl | simp, hE.sub (.cons _ (List.Sublist.refl _)) (List.Sublist.refl _)⟩
end Go.Proofs.YtponmfnegdlppaaDoor.P

end
