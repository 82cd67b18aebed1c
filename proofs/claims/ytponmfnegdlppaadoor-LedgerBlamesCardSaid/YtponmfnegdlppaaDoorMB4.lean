/- Several texts laid together (wip/tools/merge2.py): HBlame, HBlameF, HRefBlame, HBlames. -/
import Derived.Test.YtponmfnegdlppaaDoorMB2
import Derived.Test.YtponmfnegdlppaaDoorMB1
import Derived.Test.YtponmfnegdlppaaDoorMB3
import Derived.Outline
import Derived.Deep.DeepCutAuto
section
/- ledger.Blame, by hand (printed by HBlame.gen.py). -/
namespace Go.Proofs.YtponmfnegdlppaaDoor.P
open Go.RowKit Go.Proofs.YtponmfnegdlppaaDoorW.PrintWords Go.Proofs.YtponmfnegdlppaaDoorW.PrintLast Go.Proofs.YtponmfnegdlppaaDoorW.PrintMore
set_option linter.unusedVariables false
set_option linter.unusedSimpArgs false

theorem C_two (W : World) (k b k2 b2 : Int) : Kd.C k29 (W.alloc (.cells #[.int .i64 k, .int .i64 b, .int .i64 k2, .int .i64 b2] 29)) (some ⟨W.heap.size, 0, none⟩) 2 [⟨k, b⟩, ⟨k2, b2⟩] := by
  have h : Kd.R k29 29 (W.alloc (.cells #[.int .i64 k, .int .i64 b, .int .i64 k2, .int .i64 b2] 29)) W.heap.size (fun _ => True) (.slice (some ⟨W.heap.size, 0, none⟩) 2 2) [⟨k, b⟩, ⟨k2, b2⟩] :=
    ⟨fun _ _ => trivial, [.int .i64 k, .int .i64 b, .int .i64 k2, .int .i64 b2], World.ownsRow_lit (base := W.heap.size) (e := 29) (size := k29.sz) W #[.int .i64 k, .int .i64 b, .int .i64 k2, .int .i64 b2] 2 (Nat.le_refl _) (by simp [maxLen]) (by rfl), Reps.c2 (k29_mkM _ _ _ ⟨k, b⟩) (Reps.c2 (k29_mkM _ _ _ ⟨k2, b2⟩) (Reps.none _ _))⟩
  exact (Kd.R_reads' h).2.2
/-- the blocks that Blame lays first -/
structure lays4 (w W3 : World) (t : Int) (u0 u1 : Value) (fl : Bool) (a b : Int) : Prop where
  q0 : Below w.heap.size w W3
  q1 : W3.heap.size = w.heap.size + 4
  q2 : bookAt W3 w.heap.size t u0 u1 fl
  q3 : bookAt W3 (w.heap.size + 1) 0 (.slice none 0 0) (.slice none 0 0) false
  q4 : W3.heap[w.heap.size + 1 + 1]? = some (.cells #[.int .i64 1, .int .i64 a] 29 (0, 0))
  q5 : W3.heap[w.heap.size + 1 + 1 + 1]? = some (.cells #[.int .i64 0, .int .i64 b] 29 (0, 0))
def w4of (w : World) (t : Int) (u0 u1 : Value) (fl : Bool) (a b : Int) : World := (((w.alloc (.cells #[.int .i64 t, u0, u1, .bool fl] 24)).alloc (.cells #[.int .i64 0, .slice none 0 0, .slice none 0 0, .bool false] 24)).alloc (.cells #[.int .i64 1, .int .i64 a] 29)).alloc (.cells #[.int .i64 0, .int .i64 b] 29)
theorem lays4_of (w : World) (t : Int) (u0 u1 : Value) (fl : Bool) (a b : Int) : lays4 w (w4of w t u0 u1 fl a b) t u0 u1 fl a b := by
  unfold w4of
  have s1 : (w.alloc (.cells #[.int .i64 t, u0, u1, .bool fl] 24)).heap.size = w.heap.size + 1 := by simp
  have e0 := heap_alloc_new w (.cells #[.int .i64 t, u0, u1, .bool fl] 24)
  have e1 := heap_alloc_new (w.alloc (.cells #[.int .i64 t, u0, u1, .bool fl] 24)) (.cells #[.int .i64 0, .slice none 0 0, .slice none 0 0, .bool false] 24)
  rw [s1] at e1
  generalize hA : w.alloc (.cells #[.int .i64 t, u0, u1, .bool fl] 24) = A at *
  have s2 : (A.alloc (.cells #[.int .i64 0, .slice none 0 0, .slice none 0 0, .bool false] 24)).heap.size = w.heap.size + 1 + 1 := by simp [s1]
  have e2 := heap_alloc_new (A.alloc (.cells #[.int .i64 0, .slice none 0 0, .slice none 0 0, .bool false] 24)) (.cells #[.int .i64 1, .int .i64 a] 29)
  rw [s2] at e2
  have bA : Below w.heap.size w A := by rw [← hA]; exact below_alloc (Below.refl _ _) _
  have bB : Below A.heap.size A (A.alloc (.cells #[.int .i64 0, .slice none 0 0, .slice none 0 0, .bool false] 24)) := below_alloc (Below.refl _ _) _
  generalize A.alloc (.cells #[.int .i64 0, .slice none 0 0, .slice none 0 0, .bool false] 24) = B at *
  have s3 : (B.alloc (.cells #[.int .i64 1, .int .i64 a] 29)).heap.size = w.heap.size + 1 + 1 + 1 := by simp [s2]
  have e3 := heap_alloc_new (B.alloc (.cells #[.int .i64 1, .int .i64 a] 29)) (.cells #[.int .i64 0, .int .i64 b] 29)
  rw [s3] at e3
  have bC : Below B.heap.size B (B.alloc (.cells #[.int .i64 1, .int .i64 a] 29)) := below_alloc (Below.refl _ _) _
  generalize B.alloc (.cells #[.int .i64 1, .int .i64 a] 29) = C at *
  have bD : Below C.heap.size C (C.alloc (.cells #[.int .i64 0, .int .i64 b] 29)) := below_alloc (Below.refl _ _) _
  have s4 : (C.alloc (.cells #[.int .i64 0, .int .i64 b] 29)).heap.size = w.heap.size + 4 := by simp [s3]
  generalize C.alloc (.cells #[.int .i64 0, .int .i64 b] 29) = D at *
  exact ⟨below_step (below_step (below_step bA bB) bC) bD, s4, (bD.block _ (by omega)).trans ((bC.block _ (by omega)).trans ((bB.block _ (by omega)).trans e0)), (bD.block _ (by omega)).trans ((bC.block _ (by omega)).trans e1), (bD.block _ (by omega)).trans e2, e3⟩
theorem lays4.below {w W3 W : World} {t : Int} {u0 u1 : Value} {fl : Bool} {a b : Int} (h : lays4 w W3 t u0 u1 fl a b) (hb : Below W3.heap.size W3 W) :
    bookAt W w.heap.size t u0 u1 fl ∧ bookAt W (w.heap.size + 1) 0 (.slice none 0 0) (.slice none 0 0) false ∧ W.heap[w.heap.size + 1 + 1]? = some (.cells #[.int .i64 1, .int .i64 a] 29 (0, 0)) ∧ Below w.heap.size w W ∧ w.heap.size + 4 ≤ W.heap.size :=
  ⟨h.q2.below hb h.q2.lt, h.q3.below hb h.q3.lt, (hb.block _ (by have := h.q1; omega)).trans h.q4, below_step h.q0 hb, by have := hb.size; have := h.q1; omega⟩

set_option maxHeartbeats 4000000 in
set_option maxRecDepth 100000 in
theorem blame_bad (t : Int) (fl : Bool) (A0 : Option Addr) (c0 : Nat) (l0 : List S38) (A1 : Option Addr) (c1 : Nat) (l1 : List S38) (a b c : Int) (w : World)
    (h0 : Kd.C k38 w A0 l0.length l0) (h1 : Kd.C k38 w A1 l1.length l1) (hl0 : l0.length ≤ 6000000000000) (hl1 : l1.length ≤ 6000000000000) (hT : Tab w) (e : Int) (he : knownP t l0 l1 fl [⟨1, a⟩, ⟨0, b⟩] = e) (hne : e ≠ 0) :
    Calls Tryd.prog 30 #[.agg #[.int .i64 t, .slice A0 l0.length c0, .slice A1 l1.length c1, .bool fl], .int .i64 a, .int .i64 b, .int .i64 c] w fun e_ w' => e_ = .returned (.tuple #[.agg #[.int .i64 0, .slice none 0 0, .slice none 0 0, .bool false], .bool false, .int .i64 e]) ∧ Below w.heap.size w w' := by
  have hl3 := lays4_of w t (.slice A0 l0.length c0) (.slice A1 l1.length c1) fl a b
  have hba : Below w.heap.size w ((w4of w t (.slice A0 l0.length c0) (.slice A1 l1.length c1) fl a b).alloc (.cells #[.int .i64 1, .int .i64 a, .int .i64 0, .int .i64 b] 29)) := below_alloc hl3.q0 _
  have hkn := known_any t fl A0 c0 l0 A1 c1 l1 (some ⟨(w4of w t (.slice A0 l0.length c0) (.slice A1 l1.length c1) fl a b).heap.size, 0, none⟩) 2 [⟨1, a⟩, ⟨0, b⟩] ((w4of w t (.slice A0 l0.length c0) (.slice A1 l1.length c1) fl a b).alloc (.cells #[.int .i64 1, .int .i64 a, .int .i64 0, .int .i64 b] 29)) (Kd.C_below h0 hba) (Kd.C_below h1 hba) (C_two (w4of w t (.slice A0 l0.length c0) (.slice A1 l1.length c1) fl a b) 1 a 0 b) (by simp) hl0 hl1 (hT.below hba)
  rw [he] at hkn
  have H0 := Aside0.mk h0
  have H1 := Aside0.mk h1
  have HT := Aside0.mk hT
  have HL0 := Aside0.mk (And.intro hl0 hl1)
  obtain ⟨W3, hW3⟩ : ∃ W3, (w4of w t (.slice A0 l0.length c0) (.slice A1 l1.length c1) fl a b) = W3 := ⟨_, rfl⟩
  rw [hW3] at hl3 hba hkn
  unfold w4of at hW3
  have HW3 := Aside0.mk hW3
  have HL := Aside0.mk hl3
  have HKN := Aside0.mk hkn
  have ha := below_alloc (Below.refl W3.heap.size W3) (.cells #[.int .i64 1, .int .i64 a, .int .i64 0, .int .i64 b] 29)
  have HBA := Aside0.mk ha
  clear hba hkn h0 h1 he hl3 hT hl0 hl1 ha hW3
  have hu22 := Tryd.underlying22
  have hu29 := Tryd.underlying29
  have hu24 := Tryd.underlying24
  have hu38 := Tryd.underlying38
  have hu26 := Tryd.underlying26
  have hz0 := HL.out.q2.c0
  have hz1 := HL.out.q2.c1
  have hz2 := HL.out.q2.c2
  have hz3 := HL.out.q2.c3
  have hy0 : W3.cell? ⟨w.heap.size + 1 + 1, 0, none⟩ = some (.int .i64 1) := (blk_cell HL.out.q4 0).trans rfl
  have hy1 : W3.cell? ⟨w.heap.size + 1 + 1, 1, none⟩ = some (.int .i64 a) := (blk_cell HL.out.q4 1).trans rfl
  have hy2 : W3.cell? ⟨w.heap.size + 1 + 1 + 1, 0, none⟩ = some (.int .i64 0) := (blk_cell HL.out.q5 0).trans rfl
  have hy3 : W3.cell? ⟨w.heap.size + 1 + 1 + 1, 1, none⟩ = some (.int .i64 b) := (blk_cell HL.out.q5 1).trans rfl
  have hn1 : (e != 0) = true := bne_iff_ne.2 hne
  clear hne
  go_enter Tryd.func30, Tryd.ntmps30
  go_upto_region 2 with (fail)
  rw [HW3.out]
  clear HW3
  go_wp2_with (go_at_call 54; go_must (refine HKN.out.mono ?_; rintro e_ W4 ⟨rfl, hB4⟩; have HF := Aside0.mk (HL.out.below (below_step HBA.out hB4)); clear hB4 HL HKN HBA hz0 hz1 hz2 hz3 hy0 hy1 hy2 hy3; have hc0 : W4.cell? ⟨w.heap.size + 1, 0, none⟩ = some (.int .i64 0) := HF.out.2.1.c0; have hc1 : W4.cell? ⟨w.heap.size + 1, 1, none⟩ = some (.slice none 0 0) := HF.out.2.1.c1; have hc2 : W4.cell? ⟨w.heap.size + 1, 2, none⟩ = some (.slice none 0 0) := HF.out.2.1.c2; have hc3 : W4.cell? ⟨w.heap.size + 1, 3, none⟩ = some (.bool false) := HF.out.2.1.c3; have hf0 : W4.frozen? ⟨w.heap.size + 1, 0, none⟩ = false := frozen_of_row _ _ _ _ _ HF.out.2.1; have hf1 : W4.frozen? ⟨w.heap.size + 1, 1, none⟩ = false := frozen_of_row _ _ _ _ _ HF.out.2.1; have hf2 : W4.frozen? ⟨w.heap.size + 1, 2, none⟩ = false := frozen_of_row _ _ _ _ _ HF.out.2.1; have hf3 : W4.frozen? ⟨w.heap.size + 1, 3, none⟩ = false := frozen_of_row _ _ _ _ _ HF.out.2.1))
  refine bodyPost_ret (results_ctt rfl _ _ (w.heap.size + 1) 24 #[.int .i64 0, .slice none 0 0, .slice none 0 0, .bool false] (0, 0) _ rfl (by refine blk_put (cs := #[.int .i64 0, .slice none 0 0, .slice none 0 0, .bool false]) ?_ 3 _ rfl; refine blk_put (cs := #[.int .i64 0, .slice none 0 0, .slice none 0 0, .bool false]) ?_ 2 _ rfl; refine blk_put (cs := #[.int .i64 0, .slice none 0 0, .slice none 0 0, .bool false]) ?_ 1 _ rfl; refine blk_put (cs := #[.int .i64 0, .slice none 0 0, .slice none 0 0, .bool false]) ?_ 0 _ rfl; exact HF.out.2.1) Tryd.underlying24 rfl (by kernel_rfl)) rfl ?_
  exact ⟨rfl, (((HF.out.2.2.2.1.setCell (by simp) _).setCell (by simp) _).setCell (by simp) _).setCell (by simp) _⟩

set_option maxHeartbeats 4000000 in
set_option maxRecDepth 100000 in
theorem blame_arg1 (t : Int) (fl : Bool) (A0 : Option Addr) (c0 : Nat) (l0 : List S38) (A1 : Option Addr) (c1 : Nat) (l1 : List S38) (a : Int) (b : Nat) (c : Int) (w : World)
    (h0 : Kd.C k38 w A0 l0.length l0) (h1 : Kd.C k38 w A1 l1.length l1) (hl0 : l0.length ≤ 6000000000000) (hl1 : l1.length ≤ 6000000000000) (hT : Tab w) (he : knownP t l0 l1 fl [⟨1, a⟩, ⟨0, (b : Int)⟩] = 0) (hb : b < l0.length) (hc : c < 1) :
    Calls Tryd.prog 30 #[.agg #[.int .i64 t, .slice A0 l0.length c0, .slice A1 l1.length c1, .bool fl], .int .i64 a, .int .i64 b, .int .i64 c] w fun e_ w' => e_ = .returned (.tuple #[.agg #[.int .i64 0, .slice none 0 0, .slice none 0 0, .bool false], .bool false, .int .i64 3]) ∧ Below w.heap.size w w' := by
  have hl3 := lays4_of w t (.slice A0 l0.length c0) (.slice A1 l1.length c1) fl a b
  have hba : Below w.heap.size w ((w4of w t (.slice A0 l0.length c0) (.slice A1 l1.length c1) fl a b).alloc (.cells #[.int .i64 1, .int .i64 a, .int .i64 0, .int .i64 b] 29)) := below_alloc hl3.q0 _
  have hkn := known_any t fl A0 c0 l0 A1 c1 l1 (some ⟨(w4of w t (.slice A0 l0.length c0) (.slice A1 l1.length c1) fl a b).heap.size, 0, none⟩) 2 [⟨1, a⟩, ⟨0, b⟩] ((w4of w t (.slice A0 l0.length c0) (.slice A1 l1.length c1) fl a b).alloc (.cells #[.int .i64 1, .int .i64 a, .int .i64 0, .int .i64 b] 29)) (Kd.C_below h0 hba) (Kd.C_below h1 hba) (C_two (w4of w t (.slice A0 l0.length c0) (.slice A1 l1.length c1) fl a b) 1 a 0 b) (by simp) hl0 hl1 (hT.below hba)
  rw [he] at hkn
  have H0 := Aside0.mk h0
  have H1 := Aside0.mk h1
  have HT := Aside0.mk hT
  have HL0 := Aside0.mk (And.intro hl0 hl1)
  obtain ⟨W3, hW3⟩ : ∃ W3, (w4of w t (.slice A0 l0.length c0) (.slice A1 l1.length c1) fl a b) = W3 := ⟨_, rfl⟩
  rw [hW3] at hl3 hba hkn
  unfold w4of at hW3
  have HW3 := Aside0.mk hW3
  have HL := Aside0.mk hl3
  have HKN := Aside0.mk hkn
  have ha := below_alloc (Below.refl W3.heap.size W3) (.cells #[.int .i64 1, .int .i64 a, .int .i64 0, .int .i64 b] 29)
  have HBA := Aside0.mk ha
  clear hba hkn h0 h1 he hl3 hT hl0 hl1 ha hW3
  have hu22 := Tryd.underlying22
  have hu29 := Tryd.underlying29
  have hu24 := Tryd.underlying24
  have hu38 := Tryd.underlying38
  have hu26 := Tryd.underlying26
  have hz0 := HL.out.q2.c0
  have hz1 := HL.out.q2.c1
  have hz2 := HL.out.q2.c2
  have hz3 := HL.out.q2.c3
  have hy0 : W3.cell? ⟨w.heap.size + 1 + 1, 0, none⟩ = some (.int .i64 1) := (blk_cell HL.out.q4 0).trans rfl
  have hy1 : W3.cell? ⟨w.heap.size + 1 + 1, 1, none⟩ = some (.int .i64 a) := (blk_cell HL.out.q4 1).trans rfl
  have hy2 : W3.cell? ⟨w.heap.size + 1 + 1 + 1, 0, none⟩ = some (.int .i64 0) := (blk_cell HL.out.q5 0).trans rfl
  have hy3 : W3.cell? ⟨w.heap.size + 1 + 1 + 1, 1, none⟩ = some (.int .i64 b) := (blk_cell HL.out.q5 1).trans rfl
  obtain ⟨ad, ea, hx0, hx1, hx2⟩ := at_T38 H0.out (b : Int) (by omega) (by omega)
  subst ea
  rw [Int.toNat_natCast] at hx0 hx1 hx2
  obtain ⟨⟨sa, s1, s2⟩, hs⟩ : ∃ s, rd_T38 l0 (b : Int) = s := ⟨_, rfl⟩
  rw [hs] at hx0 hx1 hx2
  dsimp only at *
  have HX := Aside0.mk (And.intro hx0 (And.intro hx1 hx2))
  have HBI := Aside0.mk hb
  clear hx0 hx1 hx2 hs
  have d1 : decide (c < 1) = true := decide_eq_true hc
  clear hc
  go_enter Tryd.func30, Tryd.ntmps30
  go_upto_region 2 with (fail)
  rw [HW3.out]
  clear HW3
  go_upto_region 5 with (go_at_call 54; go_must (refine HKN.out.mono ?_; rintro e_ W4 ⟨rfl, hB4⟩; have HF := Aside0.mk (HL.out.below (below_step HBA.out hB4)); clear hB4 HL HKN HBA hz0 hz1 hz2 hz3 hy0 hy1 hy2 hy3))
  have hz1 := HF.out.1.c1
  have hx0 := (HF.out.2.2.2.1.cell (World.block_lt_of_cell? w _ HX.out.1)).trans HX.out.1
  have hx1 := (HF.out.2.2.2.1.cell (World.block_lt_of_cell? w _ HX.out.2.1)).trans HX.out.2.1
  have hx2 := (HF.out.2.2.2.1.cell (World.block_lt_of_cell? w _ HX.out.2.2)).trans HX.out.2.2
  go_upto_region 6 with (fail)
  obtain ⟨W5, hW5⟩ : ∃ W5, W5 = W4.alloc (.cells #[.int .i64 sa, .int .i64 s1, .int .i64 s2] 38) := ⟨_, rfl⟩
  rw [← hW5]
  have hb5 : Below W4.heap.size W4 W5 := by rw [hW5]; exact below_alloc (Below.refl _ _) _
  have hs5 : W5.heap.size = W4.heap.size + 1 := by rw [hW5]; simp
  have hr14 : W5.heap[W4.heap.size]? = some (.cells #[.int .i64 sa, .int .i64 s1, .int .i64 s2] 38 (0, 0)) := by rw [hW5]; exact heap_alloc_new W4 _
  have HM := Aside0.mk (show bookAt W5 w.heap.size t _ _ fl ∧ bookAt W5 (w.heap.size + 1) 0 (.slice none 0 0) (.slice none 0 0) false ∧ W5.heap[w.heap.size + 1 + 1]? = some (.cells #[.int .i64 1, .int .i64 a] 29 (0, 0)) ∧ Below w.heap.size w W5 ∧ w.heap.size + 4 ≤ W4.heap.size ∧ W5.heap.size = W4.heap.size + 1 ∧ W5.heap[W4.heap.size]? = some (.cells #[.int .i64 sa, .int .i64 s1, .int .i64 s2] 38 (0, 0)) from
    ⟨HF.out.1.below hb5 HF.out.1.lt, HF.out.2.1.below hb5 HF.out.2.1.lt, (hb5.block _ (by have := HF.out.2.2.2.2; omega)).trans HF.out.2.2.1, below_step HF.out.2.2.2.1 hb5, HF.out.2.2.2.2, hs5, hr14⟩)
  have hm1 : W5.cell? ⟨W4.heap.size, 1, none⟩ = some (.int .i64 s1) := (blk_cell hr14 1).trans rfl
  clear hW5 hb5 hs5 hr14 HF hz1 hx0 hx1 hx2
  have hc0 : W5.cell? ⟨w.heap.size + 1, 0, none⟩ = some (.int .i64 0) := HM.out.2.1.c0
  have hc1 : W5.cell? ⟨w.heap.size + 1, 1, none⟩ = some (.slice none 0 0) := HM.out.2.1.c1
  have hc2 : W5.cell? ⟨w.heap.size + 1, 2, none⟩ = some (.slice none 0 0) := HM.out.2.1.c2
  have hc3 : W5.cell? ⟨w.heap.size + 1, 3, none⟩ = some (.bool false) := HM.out.2.1.c3
  have hf0 : W5.frozen? ⟨w.heap.size + 1, 0, none⟩ = false := frozen_of_row _ _ _ _ _ HM.out.2.1
  have hf1 : W5.frozen? ⟨w.heap.size + 1, 1, none⟩ = false := frozen_of_row _ _ _ _ _ HM.out.2.1
  have hf2 : W5.frozen? ⟨w.heap.size + 1, 2, none⟩ = false := frozen_of_row _ _ _ _ _ HM.out.2.1
  have hf3 : W5.frozen? ⟨w.heap.size + 1, 3, none⟩ = false := frozen_of_row _ _ _ _ _ HM.out.2.1
  go_wp2_with fail
  refine bodyPost_ret (results_ctt rfl _ _ (w.heap.size + 1) 24 #[.int .i64 0, .slice none 0 0, .slice none 0 0, .bool false] (0, 0) _ rfl (by refine blk_put (cs := #[.int .i64 0, .slice none 0 0, .slice none 0 0, .bool false]) ?_ 3 _ rfl; refine blk_put (cs := #[.int .i64 0, .slice none 0 0, .slice none 0 0, .bool false]) ?_ 2 _ rfl; refine blk_put (cs := #[.int .i64 0, .slice none 0 0, .slice none 0 0, .bool false]) ?_ 1 _ rfl; refine blk_put (cs := #[.int .i64 0, .slice none 0 0, .slice none 0 0, .bool false]) ?_ 0 _ rfl; exact HM.out.2.1) Tryd.underlying24 rfl (by kernel_rfl)) rfl ?_
  exact ⟨rfl, (((HM.out.2.2.2.1.setCell (by simp) _).setCell (by simp) _).setCell (by simp) _).setCell (by simp) _⟩

set_option maxHeartbeats 4000000 in
set_option maxRecDepth 100000 in
theorem blame_arg2 (t : Int) (fl : Bool) (A0 : Option Addr) (c0 : Nat) (l0 : List S38) (A1 : Option Addr) (c1 : Nat) (l1 : List S38) (a : Int) (b : Nat) (c : Int) (w : World)
    (h0 : Kd.C k38 w A0 l0.length l0) (h1 : Kd.C k38 w A1 l1.length l1) (hl0 : l0.length ≤ 6000000000000) (hl1 : l1.length ≤ 6000000000000) (hT : Tab w) (he : knownP t l0 l1 fl [⟨1, a⟩, ⟨0, (b : Int)⟩] = 0) (hb : b < l0.length) (hc : ¬ c < 1) (hc2 : (rd_T38 l0 (b : Int)).f1 < c) :
    Calls Tryd.prog 30 #[.agg #[.int .i64 t, .slice A0 l0.length c0, .slice A1 l1.length c1, .bool fl], .int .i64 a, .int .i64 b, .int .i64 c] w fun e_ w' => e_ = .returned (.tuple #[.agg #[.int .i64 0, .slice none 0 0, .slice none 0 0, .bool false], .bool false, .int .i64 3]) ∧ Below w.heap.size w w' := by
  have hl3 := lays4_of w t (.slice A0 l0.length c0) (.slice A1 l1.length c1) fl a b
  have hba : Below w.heap.size w ((w4of w t (.slice A0 l0.length c0) (.slice A1 l1.length c1) fl a b).alloc (.cells #[.int .i64 1, .int .i64 a, .int .i64 0, .int .i64 b] 29)) := below_alloc hl3.q0 _
  have hkn := known_any t fl A0 c0 l0 A1 c1 l1 (some ⟨(w4of w t (.slice A0 l0.length c0) (.slice A1 l1.length c1) fl a b).heap.size, 0, none⟩) 2 [⟨1, a⟩, ⟨0, b⟩] ((w4of w t (.slice A0 l0.length c0) (.slice A1 l1.length c1) fl a b).alloc (.cells #[.int .i64 1, .int .i64 a, .int .i64 0, .int .i64 b] 29)) (Kd.C_below h0 hba) (Kd.C_below h1 hba) (C_two (w4of w t (.slice A0 l0.length c0) (.slice A1 l1.length c1) fl a b) 1 a 0 b) (by simp) hl0 hl1 (hT.below hba)
  rw [he] at hkn
  have H0 := Aside0.mk h0
  have H1 := Aside0.mk h1
  have HT := Aside0.mk hT
  have HL0 := Aside0.mk (And.intro hl0 hl1)
  obtain ⟨W3, hW3⟩ : ∃ W3, (w4of w t (.slice A0 l0.length c0) (.slice A1 l1.length c1) fl a b) = W3 := ⟨_, rfl⟩
  rw [hW3] at hl3 hba hkn
  unfold w4of at hW3
  have HW3 := Aside0.mk hW3
  have HL := Aside0.mk hl3
  have HKN := Aside0.mk hkn
  have ha := below_alloc (Below.refl W3.heap.size W3) (.cells #[.int .i64 1, .int .i64 a, .int .i64 0, .int .i64 b] 29)
  have HBA := Aside0.mk ha
  clear hba hkn h0 h1 he hl3 hT hl0 hl1 ha hW3
  have hu22 := Tryd.underlying22
  have hu29 := Tryd.underlying29
  have hu24 := Tryd.underlying24
  have hu38 := Tryd.underlying38
  have hu26 := Tryd.underlying26
  have hz0 := HL.out.q2.c0
  have hz1 := HL.out.q2.c1
  have hz2 := HL.out.q2.c2
  have hz3 := HL.out.q2.c3
  have hy0 : W3.cell? ⟨w.heap.size + 1 + 1, 0, none⟩ = some (.int .i64 1) := (blk_cell HL.out.q4 0).trans rfl
  have hy1 : W3.cell? ⟨w.heap.size + 1 + 1, 1, none⟩ = some (.int .i64 a) := (blk_cell HL.out.q4 1).trans rfl
  have hy2 : W3.cell? ⟨w.heap.size + 1 + 1 + 1, 0, none⟩ = some (.int .i64 0) := (blk_cell HL.out.q5 0).trans rfl
  have hy3 : W3.cell? ⟨w.heap.size + 1 + 1 + 1, 1, none⟩ = some (.int .i64 b) := (blk_cell HL.out.q5 1).trans rfl
  obtain ⟨ad, ea, hx0, hx1, hx2⟩ := at_T38 H0.out (b : Int) (by omega) (by omega)
  subst ea
  rw [Int.toNat_natCast] at hx0 hx1 hx2
  obtain ⟨⟨sa, s1, s2⟩, hs⟩ : ∃ s, rd_T38 l0 (b : Int) = s := ⟨_, rfl⟩
  rw [hs] at hx0 hx1 hx2
  rw [hs] at hc2
  dsimp only at *
  have HX := Aside0.mk (And.intro hx0 (And.intro hx1 hx2))
  have HBI := Aside0.mk hb
  clear hx0 hx1 hx2 hs
  have d1 : decide (c < 1) = false := decide_eq_false hc
  clear hc
  have d2 : decide (s1 < c) = true := decide_eq_true hc2
  clear hc2
  go_enter Tryd.func30, Tryd.ntmps30
  go_upto_region 2 with (fail)
  rw [HW3.out]
  clear HW3
  go_upto_region 5 with (go_at_call 54; go_must (refine HKN.out.mono ?_; rintro e_ W4 ⟨rfl, hB4⟩; have HF := Aside0.mk (HL.out.below (below_step HBA.out hB4)); clear hB4 HL HKN HBA hz0 hz1 hz2 hz3 hy0 hy1 hy2 hy3))
  have hz1 := HF.out.1.c1
  have hx0 := (HF.out.2.2.2.1.cell (World.block_lt_of_cell? w _ HX.out.1)).trans HX.out.1
  have hx1 := (HF.out.2.2.2.1.cell (World.block_lt_of_cell? w _ HX.out.2.1)).trans HX.out.2.1
  have hx2 := (HF.out.2.2.2.1.cell (World.block_lt_of_cell? w _ HX.out.2.2)).trans HX.out.2.2
  go_upto_region 6 with (fail)
  obtain ⟨W5, hW5⟩ : ∃ W5, W5 = W4.alloc (.cells #[.int .i64 sa, .int .i64 s1, .int .i64 s2] 38) := ⟨_, rfl⟩
  rw [← hW5]
  have hb5 : Below W4.heap.size W4 W5 := by rw [hW5]; exact below_alloc (Below.refl _ _) _
  have hs5 : W5.heap.size = W4.heap.size + 1 := by rw [hW5]; simp
  have hr14 : W5.heap[W4.heap.size]? = some (.cells #[.int .i64 sa, .int .i64 s1, .int .i64 s2] 38 (0, 0)) := by rw [hW5]; exact heap_alloc_new W4 _
  have HM := Aside0.mk (show bookAt W5 w.heap.size t _ _ fl ∧ bookAt W5 (w.heap.size + 1) 0 (.slice none 0 0) (.slice none 0 0) false ∧ W5.heap[w.heap.size + 1 + 1]? = some (.cells #[.int .i64 1, .int .i64 a] 29 (0, 0)) ∧ Below w.heap.size w W5 ∧ w.heap.size + 4 ≤ W4.heap.size ∧ W5.heap.size = W4.heap.size + 1 ∧ W5.heap[W4.heap.size]? = some (.cells #[.int .i64 sa, .int .i64 s1, .int .i64 s2] 38 (0, 0)) from
    ⟨HF.out.1.below hb5 HF.out.1.lt, HF.out.2.1.below hb5 HF.out.2.1.lt, (hb5.block _ (by have := HF.out.2.2.2.2; omega)).trans HF.out.2.2.1, below_step HF.out.2.2.2.1 hb5, HF.out.2.2.2.2, hs5, hr14⟩)
  have hm1 : W5.cell? ⟨W4.heap.size, 1, none⟩ = some (.int .i64 s1) := (blk_cell hr14 1).trans rfl
  clear hW5 hb5 hs5 hr14 HF hz1 hx0 hx1 hx2
  have hc0 : W5.cell? ⟨w.heap.size + 1, 0, none⟩ = some (.int .i64 0) := HM.out.2.1.c0
  have hc1 : W5.cell? ⟨w.heap.size + 1, 1, none⟩ = some (.slice none 0 0) := HM.out.2.1.c1
  have hc2 : W5.cell? ⟨w.heap.size + 1, 2, none⟩ = some (.slice none 0 0) := HM.out.2.1.c2
  have hc3 : W5.cell? ⟨w.heap.size + 1, 3, none⟩ = some (.bool false) := HM.out.2.1.c3
  have hf0 : W5.frozen? ⟨w.heap.size + 1, 0, none⟩ = false := frozen_of_row _ _ _ _ _ HM.out.2.1
  have hf1 : W5.frozen? ⟨w.heap.size + 1, 1, none⟩ = false := frozen_of_row _ _ _ _ _ HM.out.2.1
  have hf2 : W5.frozen? ⟨w.heap.size + 1, 2, none⟩ = false := frozen_of_row _ _ _ _ _ HM.out.2.1
  have hf3 : W5.frozen? ⟨w.heap.size + 1, 3, none⟩ = false := frozen_of_row _ _ _ _ _ HM.out.2.1
  go_wp2_with fail
  refine bodyPost_ret (results_ctt rfl _ _ (w.heap.size + 1) 24 #[.int .i64 0, .slice none 0 0, .slice none 0 0, .bool false] (0, 0) _ rfl (by refine blk_put (cs := #[.int .i64 0, .slice none 0 0, .slice none 0 0, .bool false]) ?_ 3 _ rfl; refine blk_put (cs := #[.int .i64 0, .slice none 0 0, .slice none 0 0, .bool false]) ?_ 2 _ rfl; refine blk_put (cs := #[.int .i64 0, .slice none 0 0, .slice none 0 0, .bool false]) ?_ 1 _ rfl; refine blk_put (cs := #[.int .i64 0, .slice none 0 0, .slice none 0 0, .bool false]) ?_ 0 _ rfl; exact HM.out.2.1) Tryd.underlying24 rfl (by kernel_rfl)) rfl ?_
  exact ⟨rfl, (((HM.out.2.2.2.1.setCell (by simp) _).setCell (by simp) _).setCell (by simp) _).setCell (by simp) _⟩

set_option maxHeartbeats 4000000 in
set_option maxRecDepth 100000 in
theorem blame_enderr (t : Int) (fl : Bool) (A0 : Option Addr) (c0 : Nat) (l0 : List S38) (A1 : Option Addr) (c1 : Nat) (l1 : List S38) (a : Int) (b : Nat) (c : Int) (w : World)
    (h0 : Kd.C k38 w A0 l0.length l0) (h1 : Kd.C k38 w A1 l1.length l1) (hl0 : l0.length ≤ 6000000000000) (hl1 : l1.length ≤ 6000000000000) (hT : Tab w) (he : knownP t l0 l1 fl [⟨1, a⟩, ⟨0, (b : Int)⟩] = 0) (hb : b < l0.length) (hc : ¬ c < 1) (hc2 : ¬ (rd_T38 l0 (b : Int)).f1 < c) (r1 : Int) (r2 r3 : List S38) (r4 : Bool) (r5 : Int) (hend : endP t l0 l1 fl 1 a (fun s => ⟨2, s.f1, s.f2⟩) (fun _ => false) = (r1, r2, r3, r4, r5)) (hr5 : r5 ≠ 0) :
    Calls Tryd.prog 30 #[.agg #[.int .i64 t, .slice A0 l0.length c0, .slice A1 l1.length c1, .bool fl], .int .i64 a, .int .i64 b, .int .i64 c] w fun e_ w' => e_ = .returned (.tuple #[.agg #[.int .i64 0, .slice none 0 0, .slice none 0 0, .bool false], .bool false, .int .i64 r5]) ∧ Below w.heap.size w w' := by
  have hl3 := lays4_of w t (.slice A0 l0.length c0) (.slice A1 l1.length c1) fl a b
  have hba : Below w.heap.size w ((w4of w t (.slice A0 l0.length c0) (.slice A1 l1.length c1) fl a b).alloc (.cells #[.int .i64 1, .int .i64 a, .int .i64 0, .int .i64 b] 29)) := below_alloc hl3.q0 _
  have hkn := known_any t fl A0 c0 l0 A1 c1 l1 (some ⟨(w4of w t (.slice A0 l0.length c0) (.slice A1 l1.length c1) fl a b).heap.size, 0, none⟩) 2 [⟨1, a⟩, ⟨0, b⟩] ((w4of w t (.slice A0 l0.length c0) (.slice A1 l1.length c1) fl a b).alloc (.cells #[.int .i64 1, .int .i64 a, .int .i64 0, .int .i64 b] 29)) (Kd.C_below h0 hba) (Kd.C_below h1 hba) (C_two (w4of w t (.slice A0 l0.length c0) (.slice A1 l1.length c1) fl a b) 1 a 0 b) (by simp) hl0 hl1 (hT.below hba)
  rw [he] at hkn
  have H0 := Aside0.mk h0
  have H1 := Aside0.mk h1
  have HT := Aside0.mk hT
  have HL0 := Aside0.mk (And.intro hl0 hl1)
  obtain ⟨W3, hW3⟩ : ∃ W3, (w4of w t (.slice A0 l0.length c0) (.slice A1 l1.length c1) fl a b) = W3 := ⟨_, rfl⟩
  rw [hW3] at hl3 hba hkn
  unfold w4of at hW3
  have HW3 := Aside0.mk hW3
  have HL := Aside0.mk hl3
  have HKN := Aside0.mk hkn
  have ha := below_alloc (Below.refl W3.heap.size W3) (.cells #[.int .i64 1, .int .i64 a, .int .i64 0, .int .i64 b] 29)
  have HBA := Aside0.mk ha
  clear hba hkn h0 h1 he hl3 hT hl0 hl1 ha hW3
  have hu22 := Tryd.underlying22
  have hu29 := Tryd.underlying29
  have hu24 := Tryd.underlying24
  have hu38 := Tryd.underlying38
  have hu26 := Tryd.underlying26
  have hz0 := HL.out.q2.c0
  have hz1 := HL.out.q2.c1
  have hz2 := HL.out.q2.c2
  have hz3 := HL.out.q2.c3
  have hy0 : W3.cell? ⟨w.heap.size + 1 + 1, 0, none⟩ = some (.int .i64 1) := (blk_cell HL.out.q4 0).trans rfl
  have hy1 : W3.cell? ⟨w.heap.size + 1 + 1, 1, none⟩ = some (.int .i64 a) := (blk_cell HL.out.q4 1).trans rfl
  have hy2 : W3.cell? ⟨w.heap.size + 1 + 1 + 1, 0, none⟩ = some (.int .i64 0) := (blk_cell HL.out.q5 0).trans rfl
  have hy3 : W3.cell? ⟨w.heap.size + 1 + 1 + 1, 1, none⟩ = some (.int .i64 b) := (blk_cell HL.out.q5 1).trans rfl
  obtain ⟨ad, ea, hx0, hx1, hx2⟩ := at_T38 H0.out (b : Int) (by omega) (by omega)
  subst ea
  rw [Int.toNat_natCast] at hx0 hx1 hx2
  obtain ⟨⟨sa, s1, s2⟩, hs⟩ : ∃ s, rd_T38 l0 (b : Int) = s := ⟨_, rfl⟩
  rw [hs] at hx0 hx1 hx2
  rw [hs] at hc2
  dsimp only at *
  have HX := Aside0.mk (And.intro hx0 (And.intro hx1 hx2))
  have HBI := Aside0.mk hb
  clear hx0 hx1 hx2 hs
  have d1 : decide (c < 1) = false := decide_eq_false hc
  clear hc
  have d2 : decide (s1 < c) = false := decide_eq_false hc2
  clear hc2
  go_enter Tryd.func30, Tryd.ntmps30
  go_upto_region 2 with (fail)
  rw [HW3.out]
  clear HW3
  go_upto_region 5 with (go_at_call 54; go_must (refine HKN.out.mono ?_; rintro e_ W4 ⟨rfl, hB4⟩; have HF := Aside0.mk (HL.out.below (below_step HBA.out hB4)); clear hB4 HL HKN HBA hz0 hz1 hz2 hz3 hy0 hy1 hy2 hy3))
  have hz1 := HF.out.1.c1
  have hx0 := (HF.out.2.2.2.1.cell (World.block_lt_of_cell? w _ HX.out.1)).trans HX.out.1
  have hx1 := (HF.out.2.2.2.1.cell (World.block_lt_of_cell? w _ HX.out.2.1)).trans HX.out.2.1
  have hx2 := (HF.out.2.2.2.1.cell (World.block_lt_of_cell? w _ HX.out.2.2)).trans HX.out.2.2
  go_upto_region 6 with (fail)
  obtain ⟨W5, hW5⟩ : ∃ W5, W5 = W4.alloc (.cells #[.int .i64 sa, .int .i64 s1, .int .i64 s2] 38) := ⟨_, rfl⟩
  rw [← hW5]
  have hb5 : Below W4.heap.size W4 W5 := by rw [hW5]; exact below_alloc (Below.refl _ _) _
  have hs5 : W5.heap.size = W4.heap.size + 1 := by rw [hW5]; simp
  have hr14 : W5.heap[W4.heap.size]? = some (.cells #[.int .i64 sa, .int .i64 s1, .int .i64 s2] 38 (0, 0)) := by rw [hW5]; exact heap_alloc_new W4 _
  have HM := Aside0.mk (show bookAt W5 w.heap.size t _ _ fl ∧ bookAt W5 (w.heap.size + 1) 0 (.slice none 0 0) (.slice none 0 0) false ∧ W5.heap[w.heap.size + 1 + 1]? = some (.cells #[.int .i64 1, .int .i64 a] 29 (0, 0)) ∧ Below w.heap.size w W5 ∧ w.heap.size + 4 ≤ W4.heap.size ∧ W5.heap.size = W4.heap.size + 1 ∧ W5.heap[W4.heap.size]? = some (.cells #[.int .i64 sa, .int .i64 s1, .int .i64 s2] 38 (0, 0)) from
    ⟨HF.out.1.below hb5 HF.out.1.lt, HF.out.2.1.below hb5 HF.out.2.1.lt, (hb5.block _ (by have := HF.out.2.2.2.2; omega)).trans HF.out.2.2.1, below_step HF.out.2.2.2.1 hb5, HF.out.2.2.2.2, hs5, hr14⟩)
  have hm1 : W5.cell? ⟨W4.heap.size, 1, none⟩ = some (.int .i64 s1) := (blk_cell hr14 1).trans rfl
  clear hW5 hb5 hs5 hr14 HF hz1 hx0 hx1 hx2
  go_upto_region 8 with (fail)
  clear hm1
  have hz0 := HM.out.1.c0
  have hz1 := HM.out.1.c1
  have hz2 := HM.out.1.c2
  have hz3 := HM.out.1.c3
  have hy0 : W5.cell? ⟨w.heap.size + 1 + 1, 0, none⟩ = some (.int .i64 1) := (blk_cell HM.out.2.2.1 0).trans rfl
  have hy1 : W5.cell? ⟨w.heap.size + 1 + 1, 1, none⟩ = some (.int .i64 a) := (blk_cell HM.out.2.2.1 1).trans rfl
  have hen := ended_any 59 #[] (enters_of Tryd.func59 (by kernel_rfl) rfl) (fun s => ⟨2, s.f1, s.f2⟩) (fun _ => false) t fl (some ad) c0 l0 A1 c1 l1 1 a r1 r2 r3 r4 r5 W5 (Kd.C_below H0.out HM.out.2.2.2.1) (Kd.C_below H1.out HM.out.2.2.2.1) HL0.out.1 HL0.out.2 (HT.out.below HM.out.2.2.2.1)
    (fun W gb gs off u0 u1 s g1 g2 g3 g4 g5 g6 g7 => do_hold W gb gs off t u0 u1 false s g3 g4 g5) hend
  have HEN := Aside0.mk hen
  clear hen hend
  go_upto_region 9 with (go_at_call 45; go_must (refine HEN.out.mono ?_; rintro e_ W6 ⟨v1, v2, rfl, hr1, hr2, hB6⟩; have HR1 := Aside0.mk (Kd.R_mono (Kd.R_bound hr1) (fun k hk => (⟨hk.1, hk.2.1⟩ : _ ∧ W5.heap.size ≤ k))); have HR2 := Aside0.mk (Kd.R_mono (Kd.R_bound hr2) (fun k hk => (⟨hk.1, hk.2.1⟩ : _ ∧ W5.heap.size ≤ k))); have HG := Aside0.mk (show bookAt W6 w.heap.size t _ _ fl ∧ bookAt W6 (w.heap.size + 1) 0 (.slice none 0 0) (.slice none 0 0) false ∧ Below w.heap.size w W6 ∧ W6.heap[W4.heap.size]? = some (.cells #[.int .i64 sa, .int .i64 s1, .int .i64 s2] 38 (0, 0)) from ⟨HM.out.1.below hB6 HM.out.1.lt, HM.out.2.1.below hB6 HM.out.2.1.lt, below_step HM.out.2.2.2.1 hB6, (hB6.block _ (by have := HM.out.2.2.2.2.2.1; omega)).trans HM.out.2.2.2.2.2.2⟩); clear hr1 hr2 hB6 HEN hz0 hz1 hz2 hz3 hy0 hy1; obtain ⟨B1, d1_, e1⟩ := Kd.R_slice HR1.out; subst e1; obtain ⟨B2, d2_, e2⟩ := Kd.R_slice HR2.out; subst e2; have hz0 := HG.out.1.c0; have hz1 := HG.out.1.c1; have hz2 := HG.out.1.c2; have hz3 := HG.out.1.c3; have hq0 : W6.frozen? ⟨w.heap.size, 0, none⟩ = false := frozen_of_row _ _ _ _ _ HG.out.1; have hq1 : W6.frozen? ⟨w.heap.size, 1, none⟩ = false := frozen_of_row _ _ _ _ _ HG.out.1; have hq2 : W6.frozen? ⟨w.heap.size, 2, none⟩ = false := frozen_of_row _ _ _ _ _ HG.out.1; have hq3 : W6.frozen? ⟨w.heap.size, 3, none⟩ = false := frozen_of_row _ _ _ _ _ HG.out.1))
  clear hz0 hz1 hz2 hz3 hq0 hq1 hq2 hq3
  obtain ⟨W7, hW7⟩ : ∃ W7, W7 = (((W6.setCell ⟨w.heap.size, 0, none⟩ (.int .i64 r1)).setCell ⟨w.heap.size, 1, none⟩ (.slice B1 r2.length d1_)).setCell ⟨w.heap.size, 2, none⟩ (.slice B2 r3.length d2_)).setCell ⟨w.heap.size, 3, none⟩ (.bool r4) := ⟨_, rfl⟩
  rw [← hW7]
  have hfar : ∀ k, k ≠ w.heap.size → W7.heap[k]? = W6.heap[k]? := fun k hk => by rw [hW7, Below.heap_setCell _ _ _ _ hk, Below.heap_setCell _ _ _ _ hk, Below.heap_setCell _ _ _ _ hk, Below.heap_setCell _ _ _ _ hk]
  have HN := Aside0.mk (show bookAt W7 w.heap.size r1 (.slice B1 r2.length d1_) (.slice B2 r3.length d2_) r4 ∧ bookAt W7 (w.heap.size + 1) 0 (.slice none 0 0) (.slice none 0 0) false ∧ Below w.heap.size w W7 ∧ W7.heap[W4.heap.size]? = some (.cells #[.int .i64 sa, .int .i64 s1, .int .i64 s2] 38 (0, 0)) from
    ⟨by rw [hW7]; refine blk_put (cs := #[.int .i64 r1, .slice B1 r2.length d1_, .slice B2 r3.length d2_, .bool fl]) ?_ 3 _ rfl; refine blk_put (cs := #[.int .i64 r1, .slice B1 r2.length d1_, .slice A1 l1.length c1, .bool fl]) ?_ 2 _ rfl; refine blk_put (cs := #[.int .i64 r1, .slice (some ad) l0.length c0, .slice A1 l1.length c1, .bool fl]) ?_ 1 _ rfl; refine blk_put (cs := #[.int .i64 t, .slice (some ad) l0.length c0, .slice A1 l1.length c1, .bool fl]) ?_ 0 _ rfl; exact HG.out.1,
     (hfar _ (by omega)).trans HG.out.2.1, by rw [hW7]; exact (((HG.out.2.2.1.setCell (Nat.le_refl _) _).setCell (Nat.le_refl _) _).setCell (Nat.le_refl _) _).setCell (Nat.le_refl _) _, (hfar _ (by have := HM.out.2.2.2.2.1; omega)).trans HG.out.2.2.2⟩)
  have hsz : w.heap.size + 4 ≤ W5.heap.size := by have := HM.out.2.2.2.2; omega
  have HS := Aside0.mk hsz
  have HQ1 := Aside0.mk (show Kd.R k38 38 W7 W5.heap.size (fun k => some k ≠ (Value.slice B2 r3.length d2_).ownBlock ∧ W5.heap.size ≤ k) (.slice B1 r2.length d1_) r2 from by
    rw [hW7]
    exact Kd.R_far (p := ⟨w.heap.size, 3, none⟩) (Kd.R_far (p := ⟨w.heap.size, 2, none⟩) (Kd.R_far (p := ⟨w.heap.size, 1, none⟩) (Kd.R_far (p := ⟨w.heap.size, 0, none⟩) HR1.out (fun k hk => by have := hk.2; simp; omega) _) (fun k hk => by have := hk.2; simp; omega) _) (fun k hk => by have := hk.2; simp; omega) _) (fun k hk => by have := hk.2; simp; omega) _)
  have HQ2 := Aside0.mk (show Kd.R k38 38 W7 W5.heap.size (fun k => some k ≠ (Value.slice B1 r2.length d1_).ownBlock ∧ W5.heap.size ≤ k) (.slice B2 r3.length d2_) r3 from by
    rw [hW7]
    exact Kd.R_far (p := ⟨w.heap.size, 3, none⟩) (Kd.R_far (p := ⟨w.heap.size, 2, none⟩) (Kd.R_far (p := ⟨w.heap.size, 1, none⟩) (Kd.R_far (p := ⟨w.heap.size, 0, none⟩) HR2.out (fun k hk => by have := hk.2; simp; omega) _) (fun k hk => by have := hk.2; simp; omega) _) (fun k hk => by have := hk.2; simp; omega) _) (fun k hk => by have := hk.2; simp; omega) _)
  clear hW7 hfar HG HR1 HR2 hsz HM
  have hr5b : (r5 != 0) = true := bne_iff_ne.2 hr5
  clear hr5
  have hc0 : W7.cell? ⟨w.heap.size + 1, 0, none⟩ = some (.int .i64 0) := HN.out.2.1.c0
  have hc1 : W7.cell? ⟨w.heap.size + 1, 1, none⟩ = some (.slice none 0 0) := HN.out.2.1.c1
  have hc2 : W7.cell? ⟨w.heap.size + 1, 2, none⟩ = some (.slice none 0 0) := HN.out.2.1.c2
  have hc3 : W7.cell? ⟨w.heap.size + 1, 3, none⟩ = some (.bool false) := HN.out.2.1.c3
  have hf0 : W7.frozen? ⟨w.heap.size + 1, 0, none⟩ = false := frozen_of_row _ _ _ _ _ HN.out.2.1
  have hf1 : W7.frozen? ⟨w.heap.size + 1, 1, none⟩ = false := frozen_of_row _ _ _ _ _ HN.out.2.1
  have hf2 : W7.frozen? ⟨w.heap.size + 1, 2, none⟩ = false := frozen_of_row _ _ _ _ _ HN.out.2.1
  have hf3 : W7.frozen? ⟨w.heap.size + 1, 3, none⟩ = false := frozen_of_row _ _ _ _ _ HN.out.2.1
  go_wp2_with fail
  refine bodyPost_ret (results_ctt rfl _ _ (w.heap.size + 1) 24 #[.int .i64 0, .slice none 0 0, .slice none 0 0, .bool false] (0, 0) _ rfl (by refine blk_put (cs := #[.int .i64 0, .slice none 0 0, .slice none 0 0, .bool false]) ?_ 3 _ rfl; refine blk_put (cs := #[.int .i64 0, .slice none 0 0, .slice none 0 0, .bool false]) ?_ 2 _ rfl; refine blk_put (cs := #[.int .i64 0, .slice none 0 0, .slice none 0 0, .bool false]) ?_ 1 _ rfl; refine blk_put (cs := #[.int .i64 0, .slice none 0 0, .slice none 0 0, .bool false]) ?_ 0 _ rfl; exact HN.out.2.1) Tryd.underlying24 rfl (by kernel_rfl)) rfl ?_
  exact ⟨rfl, (((HN.out.2.2.1.setCell (by simp) _).setCell (by simp) _).setCell (by simp) _).setCell (by simp) _⟩

set_option maxHeartbeats 4000000 in
set_option maxRecDepth 100000 in
theorem blame_other (t : Int) (fl : Bool) (A0 : Option Addr) (c0 : Nat) (l0 : List S38) (A1 : Option Addr) (c1 : Nat) (l1 : List S38) (a : Int) (b : Nat) (c : Int) (w : World)
    (h0 : Kd.C k38 w A0 l0.length l0) (h1 : Kd.C k38 w A1 l1.length l1) (hl0 : l0.length ≤ 6000000000000) (hl1 : l1.length ≤ 6000000000000) (hT : Tab w) (he : knownP t l0 l1 fl [⟨1, a⟩, ⟨0, (b : Int)⟩] = 0) (hb : b < l0.length) (hc : ¬ c < 1) (hc2 : ¬ (rd_T38 l0 (b : Int)).f1 < c) (r1 : Int) (r2 r3 : List S38) (r4 : Bool) (r5 : Int) (hend : endP t l0 l1 fl 1 a (fun s => ⟨2, s.f1, s.f2⟩) (fun _ => false) = (r1, r2, r3, r4, r5)) (hr5 : r5 = 0) (hst : (rd_T38 l0 (b : Int)).f0 ≠ 3) :
    Calls Tryd.prog 30 #[.agg #[.int .i64 t, .slice A0 l0.length c0, .slice A1 l1.length c1, .bool fl], .int .i64 a, .int .i64 b, .int .i64 c] w fun e_ w' => ∃ v1 v2 : Value, e_ = .returned (.tuple #[.agg #[.int .i64 r1, v1, v2, .bool r4], .bool false, .int .i64 0]) ∧ Kd.R k38 38 w' w.heap.size (fun k => some k ≠ v2.ownBlock) v1 r2 ∧ Kd.R k38 38 w' w.heap.size (fun k => some k ≠ v1.ownBlock) v2 r3 ∧ Below w.heap.size w w' := by
  have hl3 := lays4_of w t (.slice A0 l0.length c0) (.slice A1 l1.length c1) fl a b
  have hba : Below w.heap.size w ((w4of w t (.slice A0 l0.length c0) (.slice A1 l1.length c1) fl a b).alloc (.cells #[.int .i64 1, .int .i64 a, .int .i64 0, .int .i64 b] 29)) := below_alloc hl3.q0 _
  have hkn := known_any t fl A0 c0 l0 A1 c1 l1 (some ⟨(w4of w t (.slice A0 l0.length c0) (.slice A1 l1.length c1) fl a b).heap.size, 0, none⟩) 2 [⟨1, a⟩, ⟨0, b⟩] ((w4of w t (.slice A0 l0.length c0) (.slice A1 l1.length c1) fl a b).alloc (.cells #[.int .i64 1, .int .i64 a, .int .i64 0, .int .i64 b] 29)) (Kd.C_below h0 hba) (Kd.C_below h1 hba) (C_two (w4of w t (.slice A0 l0.length c0) (.slice A1 l1.length c1) fl a b) 1 a 0 b) (by simp) hl0 hl1 (hT.below hba)
  rw [he] at hkn
  have H0 := Aside0.mk h0
  have H1 := Aside0.mk h1
  have HT := Aside0.mk hT
  have HL0 := Aside0.mk (And.intro hl0 hl1)
  obtain ⟨W3, hW3⟩ : ∃ W3, (w4of w t (.slice A0 l0.length c0) (.slice A1 l1.length c1) fl a b) = W3 := ⟨_, rfl⟩
  rw [hW3] at hl3 hba hkn
  unfold w4of at hW3
  have HW3 := Aside0.mk hW3
  have HL := Aside0.mk hl3
  have HKN := Aside0.mk hkn
  have ha := below_alloc (Below.refl W3.heap.size W3) (.cells #[.int .i64 1, .int .i64 a, .int .i64 0, .int .i64 b] 29)
  have HBA := Aside0.mk ha
  clear hba hkn h0 h1 he hl3 hT hl0 hl1 ha hW3
  have hu22 := Tryd.underlying22
  have hu29 := Tryd.underlying29
  have hu24 := Tryd.underlying24
  have hu38 := Tryd.underlying38
  have hu26 := Tryd.underlying26
  have hz0 := HL.out.q2.c0
  have hz1 := HL.out.q2.c1
  have hz2 := HL.out.q2.c2
  have hz3 := HL.out.q2.c3
  have hy0 : W3.cell? ⟨w.heap.size + 1 + 1, 0, none⟩ = some (.int .i64 1) := (blk_cell HL.out.q4 0).trans rfl
  have hy1 : W3.cell? ⟨w.heap.size + 1 + 1, 1, none⟩ = some (.int .i64 a) := (blk_cell HL.out.q4 1).trans rfl
  have hy2 : W3.cell? ⟨w.heap.size + 1 + 1 + 1, 0, none⟩ = some (.int .i64 0) := (blk_cell HL.out.q5 0).trans rfl
  have hy3 : W3.cell? ⟨w.heap.size + 1 + 1 + 1, 1, none⟩ = some (.int .i64 b) := (blk_cell HL.out.q5 1).trans rfl
  obtain ⟨ad, ea, hx0, hx1, hx2⟩ := at_T38 H0.out (b : Int) (by omega) (by omega)
  subst ea
  rw [Int.toNat_natCast] at hx0 hx1 hx2
  obtain ⟨⟨sa, s1, s2⟩, hs⟩ : ∃ s, rd_T38 l0 (b : Int) = s := ⟨_, rfl⟩
  rw [hs] at hx0 hx1 hx2
  rw [hs] at hc2
  rw [hs] at hst
  dsimp only at *
  have HX := Aside0.mk (And.intro hx0 (And.intro hx1 hx2))
  have HBI := Aside0.mk hb
  clear hx0 hx1 hx2 hs
  have d1 : decide (c < 1) = false := decide_eq_false hc
  clear hc
  have d2 : decide (s1 < c) = false := decide_eq_false hc2
  clear hc2
  go_enter Tryd.func30, Tryd.ntmps30
  go_upto_region 2 with (fail)
  rw [HW3.out]
  clear HW3
  go_upto_region 5 with (go_at_call 54; go_must (refine HKN.out.mono ?_; rintro e_ W4 ⟨rfl, hB4⟩; have HF := Aside0.mk (HL.out.below (below_step HBA.out hB4)); clear hB4 HL HKN HBA hz0 hz1 hz2 hz3 hy0 hy1 hy2 hy3))
  have hz1 := HF.out.1.c1
  have hx0 := (HF.out.2.2.2.1.cell (World.block_lt_of_cell? w _ HX.out.1)).trans HX.out.1
  have hx1 := (HF.out.2.2.2.1.cell (World.block_lt_of_cell? w _ HX.out.2.1)).trans HX.out.2.1
  have hx2 := (HF.out.2.2.2.1.cell (World.block_lt_of_cell? w _ HX.out.2.2)).trans HX.out.2.2
  go_upto_region 6 with (fail)
  obtain ⟨W5, hW5⟩ : ∃ W5, W5 = W4.alloc (.cells #[.int .i64 sa, .int .i64 s1, .int .i64 s2] 38) := ⟨_, rfl⟩
  rw [← hW5]
  have hb5 : Below W4.heap.size W4 W5 := by rw [hW5]; exact below_alloc (Below.refl _ _) _
  have hs5 : W5.heap.size = W4.heap.size + 1 := by rw [hW5]; simp
  have hr14 : W5.heap[W4.heap.size]? = some (.cells #[.int .i64 sa, .int .i64 s1, .int .i64 s2] 38 (0, 0)) := by rw [hW5]; exact heap_alloc_new W4 _
  have HM := Aside0.mk (show bookAt W5 w.heap.size t _ _ fl ∧ bookAt W5 (w.heap.size + 1) 0 (.slice none 0 0) (.slice none 0 0) false ∧ W5.heap[w.heap.size + 1 + 1]? = some (.cells #[.int .i64 1, .int .i64 a] 29 (0, 0)) ∧ Below w.heap.size w W5 ∧ w.heap.size + 4 ≤ W4.heap.size ∧ W5.heap.size = W4.heap.size + 1 ∧ W5.heap[W4.heap.size]? = some (.cells #[.int .i64 sa, .int .i64 s1, .int .i64 s2] 38 (0, 0)) from
    ⟨HF.out.1.below hb5 HF.out.1.lt, HF.out.2.1.below hb5 HF.out.2.1.lt, (hb5.block _ (by have := HF.out.2.2.2.2; omega)).trans HF.out.2.2.1, below_step HF.out.2.2.2.1 hb5, HF.out.2.2.2.2, hs5, hr14⟩)
  have hm1 : W5.cell? ⟨W4.heap.size, 1, none⟩ = some (.int .i64 s1) := (blk_cell hr14 1).trans rfl
  clear hW5 hb5 hs5 hr14 HF hz1 hx0 hx1 hx2
  go_upto_region 8 with (fail)
  clear hm1
  have hz0 := HM.out.1.c0
  have hz1 := HM.out.1.c1
  have hz2 := HM.out.1.c2
  have hz3 := HM.out.1.c3
  have hy0 : W5.cell? ⟨w.heap.size + 1 + 1, 0, none⟩ = some (.int .i64 1) := (blk_cell HM.out.2.2.1 0).trans rfl
  have hy1 : W5.cell? ⟨w.heap.size + 1 + 1, 1, none⟩ = some (.int .i64 a) := (blk_cell HM.out.2.2.1 1).trans rfl
  have hen := ended_any 59 #[] (enters_of Tryd.func59 (by kernel_rfl) rfl) (fun s => ⟨2, s.f1, s.f2⟩) (fun _ => false) t fl (some ad) c0 l0 A1 c1 l1 1 a r1 r2 r3 r4 r5 W5 (Kd.C_below H0.out HM.out.2.2.2.1) (Kd.C_below H1.out HM.out.2.2.2.1) HL0.out.1 HL0.out.2 (HT.out.below HM.out.2.2.2.1)
    (fun W gb gs off u0 u1 s g1 g2 g3 g4 g5 g6 g7 => do_hold W gb gs off t u0 u1 false s g3 g4 g5) hend
  have HEN := Aside0.mk hen
  clear hen hend
  go_upto_region 9 with (go_at_call 45; go_must (refine HEN.out.mono ?_; rintro e_ W6 ⟨v1, v2, rfl, hr1, hr2, hB6⟩; have HR1 := Aside0.mk (Kd.R_mono (Kd.R_bound hr1) (fun k hk => (⟨hk.1, hk.2.1⟩ : _ ∧ W5.heap.size ≤ k))); have HR2 := Aside0.mk (Kd.R_mono (Kd.R_bound hr2) (fun k hk => (⟨hk.1, hk.2.1⟩ : _ ∧ W5.heap.size ≤ k))); have HG := Aside0.mk (show bookAt W6 w.heap.size t _ _ fl ∧ bookAt W6 (w.heap.size + 1) 0 (.slice none 0 0) (.slice none 0 0) false ∧ Below w.heap.size w W6 ∧ W6.heap[W4.heap.size]? = some (.cells #[.int .i64 sa, .int .i64 s1, .int .i64 s2] 38 (0, 0)) from ⟨HM.out.1.below hB6 HM.out.1.lt, HM.out.2.1.below hB6 HM.out.2.1.lt, below_step HM.out.2.2.2.1 hB6, (hB6.block _ (by have := HM.out.2.2.2.2.2.1; omega)).trans HM.out.2.2.2.2.2.2⟩); clear hr1 hr2 hB6 HEN hz0 hz1 hz2 hz3 hy0 hy1; obtain ⟨B1, d1_, e1⟩ := Kd.R_slice HR1.out; subst e1; obtain ⟨B2, d2_, e2⟩ := Kd.R_slice HR2.out; subst e2; have hz0 := HG.out.1.c0; have hz1 := HG.out.1.c1; have hz2 := HG.out.1.c2; have hz3 := HG.out.1.c3; have hq0 : W6.frozen? ⟨w.heap.size, 0, none⟩ = false := frozen_of_row _ _ _ _ _ HG.out.1; have hq1 : W6.frozen? ⟨w.heap.size, 1, none⟩ = false := frozen_of_row _ _ _ _ _ HG.out.1; have hq2 : W6.frozen? ⟨w.heap.size, 2, none⟩ = false := frozen_of_row _ _ _ _ _ HG.out.1; have hq3 : W6.frozen? ⟨w.heap.size, 3, none⟩ = false := frozen_of_row _ _ _ _ _ HG.out.1))
  clear hz0 hz1 hz2 hz3 hq0 hq1 hq2 hq3
  obtain ⟨W7, hW7⟩ : ∃ W7, W7 = (((W6.setCell ⟨w.heap.size, 0, none⟩ (.int .i64 r1)).setCell ⟨w.heap.size, 1, none⟩ (.slice B1 r2.length d1_)).setCell ⟨w.heap.size, 2, none⟩ (.slice B2 r3.length d2_)).setCell ⟨w.heap.size, 3, none⟩ (.bool r4) := ⟨_, rfl⟩
  rw [← hW7]
  have hfar : ∀ k, k ≠ w.heap.size → W7.heap[k]? = W6.heap[k]? := fun k hk => by rw [hW7, Below.heap_setCell _ _ _ _ hk, Below.heap_setCell _ _ _ _ hk, Below.heap_setCell _ _ _ _ hk, Below.heap_setCell _ _ _ _ hk]
  have HN := Aside0.mk (show bookAt W7 w.heap.size r1 (.slice B1 r2.length d1_) (.slice B2 r3.length d2_) r4 ∧ bookAt W7 (w.heap.size + 1) 0 (.slice none 0 0) (.slice none 0 0) false ∧ Below w.heap.size w W7 ∧ W7.heap[W4.heap.size]? = some (.cells #[.int .i64 sa, .int .i64 s1, .int .i64 s2] 38 (0, 0)) from
    ⟨by rw [hW7]; refine blk_put (cs := #[.int .i64 r1, .slice B1 r2.length d1_, .slice B2 r3.length d2_, .bool fl]) ?_ 3 _ rfl; refine blk_put (cs := #[.int .i64 r1, .slice B1 r2.length d1_, .slice A1 l1.length c1, .bool fl]) ?_ 2 _ rfl; refine blk_put (cs := #[.int .i64 r1, .slice (some ad) l0.length c0, .slice A1 l1.length c1, .bool fl]) ?_ 1 _ rfl; refine blk_put (cs := #[.int .i64 t, .slice (some ad) l0.length c0, .slice A1 l1.length c1, .bool fl]) ?_ 0 _ rfl; exact HG.out.1,
     (hfar _ (by omega)).trans HG.out.2.1, by rw [hW7]; exact (((HG.out.2.2.1.setCell (Nat.le_refl _) _).setCell (Nat.le_refl _) _).setCell (Nat.le_refl _) _).setCell (Nat.le_refl _) _, (hfar _ (by have := HM.out.2.2.2.2.1; omega)).trans HG.out.2.2.2⟩)
  have hsz : w.heap.size + 4 ≤ W5.heap.size := by have := HM.out.2.2.2.2; omega
  have HS := Aside0.mk hsz
  have HQ1 := Aside0.mk (show Kd.R k38 38 W7 W5.heap.size (fun k => some k ≠ (Value.slice B2 r3.length d2_).ownBlock ∧ W5.heap.size ≤ k) (.slice B1 r2.length d1_) r2 from by
    rw [hW7]
    exact Kd.R_far (p := ⟨w.heap.size, 3, none⟩) (Kd.R_far (p := ⟨w.heap.size, 2, none⟩) (Kd.R_far (p := ⟨w.heap.size, 1, none⟩) (Kd.R_far (p := ⟨w.heap.size, 0, none⟩) HR1.out (fun k hk => by have := hk.2; simp; omega) _) (fun k hk => by have := hk.2; simp; omega) _) (fun k hk => by have := hk.2; simp; omega) _) (fun k hk => by have := hk.2; simp; omega) _)
  have HQ2 := Aside0.mk (show Kd.R k38 38 W7 W5.heap.size (fun k => some k ≠ (Value.slice B1 r2.length d1_).ownBlock ∧ W5.heap.size ≤ k) (.slice B2 r3.length d2_) r3 from by
    rw [hW7]
    exact Kd.R_far (p := ⟨w.heap.size, 3, none⟩) (Kd.R_far (p := ⟨w.heap.size, 2, none⟩) (Kd.R_far (p := ⟨w.heap.size, 1, none⟩) (Kd.R_far (p := ⟨w.heap.size, 0, none⟩) HR2.out (fun k hk => by have := hk.2; simp; omega) _) (fun k hk => by have := hk.2; simp; omega) _) (fun k hk => by have := hk.2; simp; omega) _) (fun k hk => by have := hk.2; simp; omega) _)
  clear hW7 hfar HG HR1 HR2 hsz HM
  subst hr5
  have hm0 : W7.cell? ⟨W4.heap.size, 0, none⟩ = some (.int .i64 sa) := (blk_cell HN.out.2.2.2 0).trans rfl
  have hm1 : W7.cell? ⟨W4.heap.size, 1, none⟩ = some (.int .i64 s1) := (blk_cell HN.out.2.2.2 1).trans rfl
  have d3 : (sa == 3) = false := beq_eq_false_iff_ne.2 hst
  clear hst
  have hz0 := HN.out.1.c0
  have hz1 := HN.out.1.c1
  have hz2 := HN.out.1.c2
  have hz3 := HN.out.1.c3
  have hc0 : W7.cell? ⟨w.heap.size + 1, 0, none⟩ = some (.int .i64 0) := HN.out.2.1.c0
  have hc1 : W7.cell? ⟨w.heap.size + 1, 1, none⟩ = some (.slice none 0 0) := HN.out.2.1.c1
  have hc2 : W7.cell? ⟨w.heap.size + 1, 2, none⟩ = some (.slice none 0 0) := HN.out.2.1.c2
  have hc3 : W7.cell? ⟨w.heap.size + 1, 3, none⟩ = some (.bool false) := HN.out.2.1.c3
  have hf0 : W7.frozen? ⟨w.heap.size + 1, 0, none⟩ = false := frozen_of_row _ _ _ _ _ HN.out.2.1
  have hf1 : W7.frozen? ⟨w.heap.size + 1, 1, none⟩ = false := frozen_of_row _ _ _ _ _ HN.out.2.1
  have hf2 : W7.frozen? ⟨w.heap.size + 1, 2, none⟩ = false := frozen_of_row _ _ _ _ _ HN.out.2.1
  have hf3 : W7.frozen? ⟨w.heap.size + 1, 3, none⟩ = false := frozen_of_row _ _ _ _ _ HN.out.2.1
  go_wp2_with fail
  refine bodyPost_ret (results_ctt rfl _ _ (w.heap.size + 1) 24 #[.int .i64 r1, .slice B1 r2.length d1_, .slice B2 r3.length d2_, .bool r4] (0, 0) _ rfl (by refine blk_put (cs := #[.int .i64 r1, .slice B1 r2.length d1_, .slice B2 r3.length d2_, .bool false]) ?_ 3 _ rfl; refine blk_put (cs := #[.int .i64 r1, .slice B1 r2.length d1_, .slice none 0 0, .bool false]) ?_ 2 _ rfl; refine blk_put (cs := #[.int .i64 r1, .slice none 0 0, .slice none 0 0, .bool false]) ?_ 1 _ rfl; refine blk_put (cs := #[.int .i64 0, .slice none 0 0, .slice none 0 0, .bool false]) ?_ 0 _ rfl; exact HN.out.2.1) Tryd.underlying24 rfl (by kernel_rfl)) rfl ?_
  have hs := HS.out
  refine ⟨_, _, rfl, ?_, ?_, (((HN.out.2.2.1.setCell (by simp) _).setCell (by simp) _).setCell (by simp) _).setCell (by simp) _⟩
  · exact Kd.R_lower (Kd.R_mono (Kd.R_far (p := ⟨w.heap.size + 1, 3, none⟩) (Kd.R_far (p := ⟨w.heap.size + 1, 2, none⟩) (Kd.R_far (p := ⟨w.heap.size + 1, 1, none⟩) (Kd.R_far (p := ⟨w.heap.size + 1, 0, none⟩) HQ1.out (fun k hk => by have := hk.2; simp; omega) _) (fun k hk => by have := hk.2; simp; omega) _) (fun k hk => by have := hk.2; simp; omega) _) (fun k hk => by have := hk.2; simp; omega) _) (fun k hk => hk.1)) (by omega)
  · exact Kd.R_lower (Kd.R_mono (Kd.R_far (p := ⟨w.heap.size + 1, 3, none⟩) (Kd.R_far (p := ⟨w.heap.size + 1, 2, none⟩) (Kd.R_far (p := ⟨w.heap.size + 1, 1, none⟩) (Kd.R_far (p := ⟨w.heap.size + 1, 0, none⟩) HQ2.out (fun k hk => by have := hk.2; simp; omega) _) (fun k hk => by have := hk.2; simp; omega) _) (fun k hk => by have := hk.2; simp; omega) _) (fun k hk => by have := hk.2; simp; omega) _) (fun k hk => hk.1)) (by omega)

set_option maxHeartbeats 4000000 in
set_option maxRecDepth 100000 in
theorem blame_free3 (t : Int) (fl : Bool) (A0 : Option Addr) (c0 : Nat) (l0 : List S38) (A1 : Option Addr) (c1 : Nat) (l1 : List S38) (a : Int) (b : Nat) (c : Int) (w : World)
    (h0 : Kd.C k38 w A0 l0.length l0) (h1 : Kd.C k38 w A1 l1.length l1) (hl0 : l0.length ≤ 6000000000000) (hl1 : l1.length ≤ 6000000000000) (hT : Tab w) (he : knownP t l0 l1 fl [⟨1, a⟩, ⟨0, (b : Int)⟩] = 0) (hb : b < l0.length) (hc : ¬ c < 1) (hc2 : ¬ (rd_T38 l0 (b : Int)).f1 < c) (r1 : Int) (r2 r3 : List S38) (r4 : Bool) (r5 : Int) (hend : endP t l0 l1 fl 1 a (fun s => ⟨2, s.f1, s.f2⟩) (fun _ => false) = (r1, r2, r3, r4, r5)) (hr5 : r5 = 0) (hst : (rd_T38 l0 (b : Int)).f0 = 3) (hat : (rd_T38 l0 (b : Int)).f1 ≠ c) :
    Calls Tryd.prog 30 #[.agg #[.int .i64 t, .slice A0 l0.length c0, .slice A1 l1.length c1, .bool fl], .int .i64 a, .int .i64 b, .int .i64 c] w fun e_ w' => ∃ v1 v2 : Value, e_ = .returned (.tuple #[.agg #[.int .i64 r1, v1, v2, .bool r4], .bool false, .int .i64 0]) ∧ Kd.R k38 38 w' w.heap.size (fun k => some k ≠ v2.ownBlock) v1 r2 ∧ Kd.R k38 38 w' w.heap.size (fun k => some k ≠ v1.ownBlock) v2 r3 ∧ Below w.heap.size w w' := by
  have hl3 := lays4_of w t (.slice A0 l0.length c0) (.slice A1 l1.length c1) fl a b
  have hba : Below w.heap.size w ((w4of w t (.slice A0 l0.length c0) (.slice A1 l1.length c1) fl a b).alloc (.cells #[.int .i64 1, .int .i64 a, .int .i64 0, .int .i64 b] 29)) := below_alloc hl3.q0 _
  have hkn := known_any t fl A0 c0 l0 A1 c1 l1 (some ⟨(w4of w t (.slice A0 l0.length c0) (.slice A1 l1.length c1) fl a b).heap.size, 0, none⟩) 2 [⟨1, a⟩, ⟨0, b⟩] ((w4of w t (.slice A0 l0.length c0) (.slice A1 l1.length c1) fl a b).alloc (.cells #[.int .i64 1, .int .i64 a, .int .i64 0, .int .i64 b] 29)) (Kd.C_below h0 hba) (Kd.C_below h1 hba) (C_two (w4of w t (.slice A0 l0.length c0) (.slice A1 l1.length c1) fl a b) 1 a 0 b) (by simp) hl0 hl1 (hT.below hba)
  rw [he] at hkn
  have H0 := Aside0.mk h0
  have H1 := Aside0.mk h1
  have HT := Aside0.mk hT
  have HL0 := Aside0.mk (And.intro hl0 hl1)
  obtain ⟨W3, hW3⟩ : ∃ W3, (w4of w t (.slice A0 l0.length c0) (.slice A1 l1.length c1) fl a b) = W3 := ⟨_, rfl⟩
  rw [hW3] at hl3 hba hkn
  unfold w4of at hW3
  have HW3 := Aside0.mk hW3
  have HL := Aside0.mk hl3
  have HKN := Aside0.mk hkn
  have ha := below_alloc (Below.refl W3.heap.size W3) (.cells #[.int .i64 1, .int .i64 a, .int .i64 0, .int .i64 b] 29)
  have HBA := Aside0.mk ha
  clear hba hkn h0 h1 he hl3 hT hl0 hl1 ha hW3
  have hu22 := Tryd.underlying22
  have hu29 := Tryd.underlying29
  have hu24 := Tryd.underlying24
  have hu38 := Tryd.underlying38
  have hu26 := Tryd.underlying26
  have hz0 := HL.out.q2.c0
  have hz1 := HL.out.q2.c1
  have hz2 := HL.out.q2.c2
  have hz3 := HL.out.q2.c3
  have hy0 : W3.cell? ⟨w.heap.size + 1 + 1, 0, none⟩ = some (.int .i64 1) := (blk_cell HL.out.q4 0).trans rfl
  have hy1 : W3.cell? ⟨w.heap.size + 1 + 1, 1, none⟩ = some (.int .i64 a) := (blk_cell HL.out.q4 1).trans rfl
  have hy2 : W3.cell? ⟨w.heap.size + 1 + 1 + 1, 0, none⟩ = some (.int .i64 0) := (blk_cell HL.out.q5 0).trans rfl
  have hy3 : W3.cell? ⟨w.heap.size + 1 + 1 + 1, 1, none⟩ = some (.int .i64 b) := (blk_cell HL.out.q5 1).trans rfl
  obtain ⟨ad, ea, hx0, hx1, hx2⟩ := at_T38 H0.out (b : Int) (by omega) (by omega)
  subst ea
  rw [Int.toNat_natCast] at hx0 hx1 hx2
  obtain ⟨⟨sa, s1, s2⟩, hs⟩ : ∃ s, rd_T38 l0 (b : Int) = s := ⟨_, rfl⟩
  rw [hs] at hx0 hx1 hx2
  rw [hs] at hc2
  rw [hs] at hst
  rw [hs] at hat
  dsimp only at *
  subst hst
  have d4 : (s1 == c) = false := beq_eq_false_iff_ne.2 hat
  clear hat
  have HX := Aside0.mk (And.intro hx0 (And.intro hx1 hx2))
  have HBI := Aside0.mk hb
  clear hx0 hx1 hx2 hs
  have d1 : decide (c < 1) = false := decide_eq_false hc
  clear hc
  have d2 : decide (s1 < c) = false := decide_eq_false hc2
  clear hc2
  go_enter Tryd.func30, Tryd.ntmps30
  go_upto_region 2 with (fail)
  rw [HW3.out]
  clear HW3
  go_upto_region 5 with (go_at_call 54; go_must (refine HKN.out.mono ?_; rintro e_ W4 ⟨rfl, hB4⟩; have HF := Aside0.mk (HL.out.below (below_step HBA.out hB4)); clear hB4 HL HKN HBA hz0 hz1 hz2 hz3 hy0 hy1 hy2 hy3))
  have hz1 := HF.out.1.c1
  have hx0 := (HF.out.2.2.2.1.cell (World.block_lt_of_cell? w _ HX.out.1)).trans HX.out.1
  have hx1 := (HF.out.2.2.2.1.cell (World.block_lt_of_cell? w _ HX.out.2.1)).trans HX.out.2.1
  have hx2 := (HF.out.2.2.2.1.cell (World.block_lt_of_cell? w _ HX.out.2.2)).trans HX.out.2.2
  go_upto_region 6 with (fail)
  obtain ⟨W5, hW5⟩ : ∃ W5, W5 = W4.alloc (.cells #[.int .i64 3, .int .i64 s1, .int .i64 s2] 38) := ⟨_, rfl⟩
  rw [← hW5]
  have hb5 : Below W4.heap.size W4 W5 := by rw [hW5]; exact below_alloc (Below.refl _ _) _
  have hs5 : W5.heap.size = W4.heap.size + 1 := by rw [hW5]; simp
  have hr14 : W5.heap[W4.heap.size]? = some (.cells #[.int .i64 3, .int .i64 s1, .int .i64 s2] 38 (0, 0)) := by rw [hW5]; exact heap_alloc_new W4 _
  have HM := Aside0.mk (show bookAt W5 w.heap.size t _ _ fl ∧ bookAt W5 (w.heap.size + 1) 0 (.slice none 0 0) (.slice none 0 0) false ∧ W5.heap[w.heap.size + 1 + 1]? = some (.cells #[.int .i64 1, .int .i64 a] 29 (0, 0)) ∧ Below w.heap.size w W5 ∧ w.heap.size + 4 ≤ W4.heap.size ∧ W5.heap.size = W4.heap.size + 1 ∧ W5.heap[W4.heap.size]? = some (.cells #[.int .i64 3, .int .i64 s1, .int .i64 s2] 38 (0, 0)) from
    ⟨HF.out.1.below hb5 HF.out.1.lt, HF.out.2.1.below hb5 HF.out.2.1.lt, (hb5.block _ (by have := HF.out.2.2.2.2; omega)).trans HF.out.2.2.1, below_step HF.out.2.2.2.1 hb5, HF.out.2.2.2.2, hs5, hr14⟩)
  have hm1 : W5.cell? ⟨W4.heap.size, 1, none⟩ = some (.int .i64 s1) := (blk_cell hr14 1).trans rfl
  clear hW5 hb5 hs5 hr14 HF hz1 hx0 hx1 hx2
  go_upto_region 8 with (fail)
  clear hm1
  have hz0 := HM.out.1.c0
  have hz1 := HM.out.1.c1
  have hz2 := HM.out.1.c2
  have hz3 := HM.out.1.c3
  have hy0 : W5.cell? ⟨w.heap.size + 1 + 1, 0, none⟩ = some (.int .i64 1) := (blk_cell HM.out.2.2.1 0).trans rfl
  have hy1 : W5.cell? ⟨w.heap.size + 1 + 1, 1, none⟩ = some (.int .i64 a) := (blk_cell HM.out.2.2.1 1).trans rfl
  have hen := ended_any 59 #[] (enters_of Tryd.func59 (by kernel_rfl) rfl) (fun s => ⟨2, s.f1, s.f2⟩) (fun _ => false) t fl (some ad) c0 l0 A1 c1 l1 1 a r1 r2 r3 r4 r5 W5 (Kd.C_below H0.out HM.out.2.2.2.1) (Kd.C_below H1.out HM.out.2.2.2.1) HL0.out.1 HL0.out.2 (HT.out.below HM.out.2.2.2.1)
    (fun W gb gs off u0 u1 s g1 g2 g3 g4 g5 g6 g7 => do_hold W gb gs off t u0 u1 false s g3 g4 g5) hend
  have HEN := Aside0.mk hen
  clear hen hend
  go_upto_region 9 with (go_at_call 45; go_must (refine HEN.out.mono ?_; rintro e_ W6 ⟨v1, v2, rfl, hr1, hr2, hB6⟩; have HR1 := Aside0.mk (Kd.R_mono (Kd.R_bound hr1) (fun k hk => (⟨hk.1, hk.2.1⟩ : _ ∧ W5.heap.size ≤ k))); have HR2 := Aside0.mk (Kd.R_mono (Kd.R_bound hr2) (fun k hk => (⟨hk.1, hk.2.1⟩ : _ ∧ W5.heap.size ≤ k))); have HG := Aside0.mk (show bookAt W6 w.heap.size t _ _ fl ∧ bookAt W6 (w.heap.size + 1) 0 (.slice none 0 0) (.slice none 0 0) false ∧ Below w.heap.size w W6 ∧ W6.heap[W4.heap.size]? = some (.cells #[.int .i64 3, .int .i64 s1, .int .i64 s2] 38 (0, 0)) from ⟨HM.out.1.below hB6 HM.out.1.lt, HM.out.2.1.below hB6 HM.out.2.1.lt, below_step HM.out.2.2.2.1 hB6, (hB6.block _ (by have := HM.out.2.2.2.2.2.1; omega)).trans HM.out.2.2.2.2.2.2⟩); clear hr1 hr2 hB6 HEN hz0 hz1 hz2 hz3 hy0 hy1; obtain ⟨B1, d1_, e1⟩ := Kd.R_slice HR1.out; subst e1; obtain ⟨B2, d2_, e2⟩ := Kd.R_slice HR2.out; subst e2; have hz0 := HG.out.1.c0; have hz1 := HG.out.1.c1; have hz2 := HG.out.1.c2; have hz3 := HG.out.1.c3; have hq0 : W6.frozen? ⟨w.heap.size, 0, none⟩ = false := frozen_of_row _ _ _ _ _ HG.out.1; have hq1 : W6.frozen? ⟨w.heap.size, 1, none⟩ = false := frozen_of_row _ _ _ _ _ HG.out.1; have hq2 : W6.frozen? ⟨w.heap.size, 2, none⟩ = false := frozen_of_row _ _ _ _ _ HG.out.1; have hq3 : W6.frozen? ⟨w.heap.size, 3, none⟩ = false := frozen_of_row _ _ _ _ _ HG.out.1))
  clear hz0 hz1 hz2 hz3 hq0 hq1 hq2 hq3
  obtain ⟨W7, hW7⟩ : ∃ W7, W7 = (((W6.setCell ⟨w.heap.size, 0, none⟩ (.int .i64 r1)).setCell ⟨w.heap.size, 1, none⟩ (.slice B1 r2.length d1_)).setCell ⟨w.heap.size, 2, none⟩ (.slice B2 r3.length d2_)).setCell ⟨w.heap.size, 3, none⟩ (.bool r4) := ⟨_, rfl⟩
  rw [← hW7]
  have hfar : ∀ k, k ≠ w.heap.size → W7.heap[k]? = W6.heap[k]? := fun k hk => by rw [hW7, Below.heap_setCell _ _ _ _ hk, Below.heap_setCell _ _ _ _ hk, Below.heap_setCell _ _ _ _ hk, Below.heap_setCell _ _ _ _ hk]
  have HN := Aside0.mk (show bookAt W7 w.heap.size r1 (.slice B1 r2.length d1_) (.slice B2 r3.length d2_) r4 ∧ bookAt W7 (w.heap.size + 1) 0 (.slice none 0 0) (.slice none 0 0) false ∧ Below w.heap.size w W7 ∧ W7.heap[W4.heap.size]? = some (.cells #[.int .i64 3, .int .i64 s1, .int .i64 s2] 38 (0, 0)) from
    ⟨by rw [hW7]; refine blk_put (cs := #[.int .i64 r1, .slice B1 r2.length d1_, .slice B2 r3.length d2_, .bool fl]) ?_ 3 _ rfl; refine blk_put (cs := #[.int .i64 r1, .slice B1 r2.length d1_, .slice A1 l1.length c1, .bool fl]) ?_ 2 _ rfl; refine blk_put (cs := #[.int .i64 r1, .slice (some ad) l0.length c0, .slice A1 l1.length c1, .bool fl]) ?_ 1 _ rfl; refine blk_put (cs := #[.int .i64 t, .slice (some ad) l0.length c0, .slice A1 l1.length c1, .bool fl]) ?_ 0 _ rfl; exact HG.out.1,
     (hfar _ (by omega)).trans HG.out.2.1, by rw [hW7]; exact (((HG.out.2.2.1.setCell (Nat.le_refl _) _).setCell (Nat.le_refl _) _).setCell (Nat.le_refl _) _).setCell (Nat.le_refl _) _, (hfar _ (by have := HM.out.2.2.2.2.1; omega)).trans HG.out.2.2.2⟩)
  have hsz : w.heap.size + 4 ≤ W5.heap.size := by have := HM.out.2.2.2.2; omega
  have HS := Aside0.mk hsz
  have HQ1 := Aside0.mk (show Kd.R k38 38 W7 W5.heap.size (fun k => some k ≠ (Value.slice B2 r3.length d2_).ownBlock ∧ W5.heap.size ≤ k) (.slice B1 r2.length d1_) r2 from by
    rw [hW7]
    exact Kd.R_far (p := ⟨w.heap.size, 3, none⟩) (Kd.R_far (p := ⟨w.heap.size, 2, none⟩) (Kd.R_far (p := ⟨w.heap.size, 1, none⟩) (Kd.R_far (p := ⟨w.heap.size, 0, none⟩) HR1.out (fun k hk => by have := hk.2; simp; omega) _) (fun k hk => by have := hk.2; simp; omega) _) (fun k hk => by have := hk.2; simp; omega) _) (fun k hk => by have := hk.2; simp; omega) _)
  have HQ2 := Aside0.mk (show Kd.R k38 38 W7 W5.heap.size (fun k => some k ≠ (Value.slice B1 r2.length d1_).ownBlock ∧ W5.heap.size ≤ k) (.slice B2 r3.length d2_) r3 from by
    rw [hW7]
    exact Kd.R_far (p := ⟨w.heap.size, 3, none⟩) (Kd.R_far (p := ⟨w.heap.size, 2, none⟩) (Kd.R_far (p := ⟨w.heap.size, 1, none⟩) (Kd.R_far (p := ⟨w.heap.size, 0, none⟩) HR2.out (fun k hk => by have := hk.2; simp; omega) _) (fun k hk => by have := hk.2; simp; omega) _) (fun k hk => by have := hk.2; simp; omega) _) (fun k hk => by have := hk.2; simp; omega) _)
  clear hW7 hfar HG HR1 HR2 hsz HM
  subst hr5
  have hm0 : W7.cell? ⟨W4.heap.size, 0, none⟩ = some (.int .i64 3) := (blk_cell HN.out.2.2.2 0).trans rfl
  have hm1 : W7.cell? ⟨W4.heap.size, 1, none⟩ = some (.int .i64 s1) := (blk_cell HN.out.2.2.2 1).trans rfl
  have hz0 := HN.out.1.c0
  have hz1 := HN.out.1.c1
  have hz2 := HN.out.1.c2
  have hz3 := HN.out.1.c3
  have hc0 : W7.cell? ⟨w.heap.size + 1, 0, none⟩ = some (.int .i64 0) := HN.out.2.1.c0
  have hc1 : W7.cell? ⟨w.heap.size + 1, 1, none⟩ = some (.slice none 0 0) := HN.out.2.1.c1
  have hc2 : W7.cell? ⟨w.heap.size + 1, 2, none⟩ = some (.slice none 0 0) := HN.out.2.1.c2
  have hc3 : W7.cell? ⟨w.heap.size + 1, 3, none⟩ = some (.bool false) := HN.out.2.1.c3
  have hf0 : W7.frozen? ⟨w.heap.size + 1, 0, none⟩ = false := frozen_of_row _ _ _ _ _ HN.out.2.1
  have hf1 : W7.frozen? ⟨w.heap.size + 1, 1, none⟩ = false := frozen_of_row _ _ _ _ _ HN.out.2.1
  have hf2 : W7.frozen? ⟨w.heap.size + 1, 2, none⟩ = false := frozen_of_row _ _ _ _ _ HN.out.2.1
  have hf3 : W7.frozen? ⟨w.heap.size + 1, 3, none⟩ = false := frozen_of_row _ _ _ _ _ HN.out.2.1
  go_wp2_with fail
  refine bodyPost_ret (results_ctt rfl _ _ (w.heap.size + 1) 24 #[.int .i64 r1, .slice B1 r2.length d1_, .slice B2 r3.length d2_, .bool r4] (0, 0) _ rfl (by refine blk_put (cs := #[.int .i64 r1, .slice B1 r2.length d1_, .slice B2 r3.length d2_, .bool false]) ?_ 3 _ rfl; refine blk_put (cs := #[.int .i64 r1, .slice B1 r2.length d1_, .slice none 0 0, .bool false]) ?_ 2 _ rfl; refine blk_put (cs := #[.int .i64 r1, .slice none 0 0, .slice none 0 0, .bool false]) ?_ 1 _ rfl; refine blk_put (cs := #[.int .i64 0, .slice none 0 0, .slice none 0 0, .bool false]) ?_ 0 _ rfl; exact HN.out.2.1) Tryd.underlying24 rfl (by kernel_rfl)) rfl ?_
  have hs := HS.out
  refine ⟨_, _, rfl, ?_, ?_, (((HN.out.2.2.1.setCell (by simp) _).setCell (by simp) _).setCell (by simp) _).setCell (by simp) _⟩
  · exact Kd.R_lower (Kd.R_mono (Kd.R_far (p := ⟨w.heap.size + 1, 3, none⟩) (Kd.R_far (p := ⟨w.heap.size + 1, 2, none⟩) (Kd.R_far (p := ⟨w.heap.size + 1, 1, none⟩) (Kd.R_far (p := ⟨w.heap.size + 1, 0, none⟩) HQ1.out (fun k hk => by have := hk.2; simp; omega) _) (fun k hk => by have := hk.2; simp; omega) _) (fun k hk => by have := hk.2; simp; omega) _) (fun k hk => by have := hk.2; simp; omega) _) (fun k hk => hk.1)) (by omega)
  · exact Kd.R_lower (Kd.R_mono (Kd.R_far (p := ⟨w.heap.size + 1, 3, none⟩) (Kd.R_far (p := ⟨w.heap.size + 1, 2, none⟩) (Kd.R_far (p := ⟨w.heap.size + 1, 1, none⟩) (Kd.R_far (p := ⟨w.heap.size + 1, 0, none⟩) HQ2.out (fun k hk => by have := hk.2; simp; omega) _) (fun k hk => by have := hk.2; simp; omega) _) (fun k hk => by have := hk.2; simp; omega) _) (fun k hk => by have := hk.2; simp; omega) _) (fun k hk => hk.1)) (by omega)

set_option maxHeartbeats 4000000 in
set_option maxRecDepth 100000 in
theorem blame_guilty (t : Int) (fl : Bool) (A0 : Option Addr) (c0 : Nat) (l0 : List S38) (A1 : Option Addr) (c1 : Nat) (l1 : List S38) (a : Int) (b : Nat) (c : Int) (w : World)
    (h0 : Kd.C k38 w A0 l0.length l0) (h1 : Kd.C k38 w A1 l1.length l1) (hl0 : l0.length ≤ 6000000000000) (hl1 : l1.length ≤ 6000000000000) (hT : Tab w) (he : knownP t l0 l1 fl [⟨1, a⟩, ⟨0, (b : Int)⟩] = 0) (hb : b < l0.length) (hc : ¬ c < 1) (hc2 : ¬ (rd_T38 l0 (b : Int)).f1 < c) (r1 : Int) (r2 r3 : List S38) (r4 : Bool) (r5 : Int) (hend : endP t l0 l1 fl 1 a (fun s => ⟨2, s.f1, s.f2⟩) (fun _ => false) = (r1, r2, r3, r4, r5)) (hr5 : r5 = 0) (hst : (rd_T38 l0 (b : Int)).f0 = 3) (hat : (rd_T38 l0 (b : Int)).f1 = c) (hrd : rd_T38 r2 (b : Int) = rd_T38 l0 (b : Int)) (hrl : b < r2.length) (hch : 0 ≤ (rd_T38 l0 (b : Int)).f2 ∧ (rd_T38 l0 (b : Int)).f2 ≤ 1000) :
    Calls Tryd.prog 30 #[.agg #[.int .i64 t, .slice A0 l0.length c0, .slice A1 l1.length c1, .bool fl], .int .i64 a, .int .i64 b, .int .i64 c] w fun e_ w' => ∃ v1 v2 : Value, e_ = .returned (.tuple #[.agg #[.int .i64 r1, v1, v2, .bool (r4 || decide ((rd_T38 l0 (b : Int)).f2 + 1 = r1))], .bool true, .int .i64 0]) ∧ Kd.R k38 38 w' w.heap.size (fun k => some k ≠ v2.ownBlock) v1 (r2.set b ⟨0, (rd_T38 l0 (b : Int)).f1, (rd_T38 l0 (b : Int)).f2 + 1⟩) ∧ Kd.R k38 38 w' w.heap.size (fun k => some k ≠ v1.ownBlock) v2 r3 ∧ Below w.heap.size w w' := by
  have hl3 := lays4_of w t (.slice A0 l0.length c0) (.slice A1 l1.length c1) fl a b
  have hba : Below w.heap.size w ((w4of w t (.slice A0 l0.length c0) (.slice A1 l1.length c1) fl a b).alloc (.cells #[.int .i64 1, .int .i64 a, .int .i64 0, .int .i64 b] 29)) := below_alloc hl3.q0 _
  have hkn := known_any t fl A0 c0 l0 A1 c1 l1 (some ⟨(w4of w t (.slice A0 l0.length c0) (.slice A1 l1.length c1) fl a b).heap.size, 0, none⟩) 2 [⟨1, a⟩, ⟨0, b⟩] ((w4of w t (.slice A0 l0.length c0) (.slice A1 l1.length c1) fl a b).alloc (.cells #[.int .i64 1, .int .i64 a, .int .i64 0, .int .i64 b] 29)) (Kd.C_below h0 hba) (Kd.C_below h1 hba) (C_two (w4of w t (.slice A0 l0.length c0) (.slice A1 l1.length c1) fl a b) 1 a 0 b) (by simp) hl0 hl1 (hT.below hba)
  rw [he] at hkn
  have H0 := Aside0.mk h0
  have H1 := Aside0.mk h1
  have HT := Aside0.mk hT
  have HL0 := Aside0.mk (And.intro hl0 hl1)
  obtain ⟨W3, hW3⟩ : ∃ W3, (w4of w t (.slice A0 l0.length c0) (.slice A1 l1.length c1) fl a b) = W3 := ⟨_, rfl⟩
  rw [hW3] at hl3 hba hkn
  unfold w4of at hW3
  have HW3 := Aside0.mk hW3
  have HL := Aside0.mk hl3
  have HKN := Aside0.mk hkn
  have ha := below_alloc (Below.refl W3.heap.size W3) (.cells #[.int .i64 1, .int .i64 a, .int .i64 0, .int .i64 b] 29)
  have HBA := Aside0.mk ha
  clear hba hkn h0 h1 he hl3 hT hl0 hl1 ha hW3
  have hu22 := Tryd.underlying22
  have hu29 := Tryd.underlying29
  have hu24 := Tryd.underlying24
  have hu38 := Tryd.underlying38
  have hu26 := Tryd.underlying26
  have hz0 := HL.out.q2.c0
  have hz1 := HL.out.q2.c1
  have hz2 := HL.out.q2.c2
  have hz3 := HL.out.q2.c3
  have hy0 : W3.cell? ⟨w.heap.size + 1 + 1, 0, none⟩ = some (.int .i64 1) := (blk_cell HL.out.q4 0).trans rfl
  have hy1 : W3.cell? ⟨w.heap.size + 1 + 1, 1, none⟩ = some (.int .i64 a) := (blk_cell HL.out.q4 1).trans rfl
  have hy2 : W3.cell? ⟨w.heap.size + 1 + 1 + 1, 0, none⟩ = some (.int .i64 0) := (blk_cell HL.out.q5 0).trans rfl
  have hy3 : W3.cell? ⟨w.heap.size + 1 + 1 + 1, 1, none⟩ = some (.int .i64 b) := (blk_cell HL.out.q5 1).trans rfl
  obtain ⟨ad, ea, hx0, hx1, hx2⟩ := at_T38 H0.out (b : Int) (by omega) (by omega)
  subst ea
  rw [Int.toNat_natCast] at hx0 hx1 hx2
  obtain ⟨⟨sa, s1, s2⟩, hs⟩ : ∃ s, rd_T38 l0 (b : Int) = s := ⟨_, rfl⟩
  rw [hs] at hx0 hx1 hx2
  rw [hs] at hc2
  rw [hs] at hst
  rw [hs] at hat
  rw [hs] at hch
  rw [hs] at hrd
  rw [hs]
  dsimp only at *
  subst hst
  have d4 : (s1 == c) = true := beq_iff_eq.2 hat
  clear hat
  have HRD := Aside0.mk hrd
  clear hrd
  have HX := Aside0.mk (And.intro hx0 (And.intro hx1 hx2))
  have HBI := Aside0.mk hb
  clear hx0 hx1 hx2 hs
  have d1 : decide (c < 1) = false := decide_eq_false hc
  clear hc
  have d2 : decide (s1 < c) = false := decide_eq_false hc2
  clear hc2
  go_enter Tryd.func30, Tryd.ntmps30
  go_upto_region 2 with (fail)
  rw [HW3.out]
  clear HW3
  go_upto_region 5 with (go_at_call 54; go_must (refine HKN.out.mono ?_; rintro e_ W4 ⟨rfl, hB4⟩; have HF := Aside0.mk (HL.out.below (below_step HBA.out hB4)); clear hB4 HL HKN HBA hz0 hz1 hz2 hz3 hy0 hy1 hy2 hy3))
  have hz1 := HF.out.1.c1
  have hx0 := (HF.out.2.2.2.1.cell (World.block_lt_of_cell? w _ HX.out.1)).trans HX.out.1
  have hx1 := (HF.out.2.2.2.1.cell (World.block_lt_of_cell? w _ HX.out.2.1)).trans HX.out.2.1
  have hx2 := (HF.out.2.2.2.1.cell (World.block_lt_of_cell? w _ HX.out.2.2)).trans HX.out.2.2
  go_upto_region 6 with (fail)
  obtain ⟨W5, hW5⟩ : ∃ W5, W5 = W4.alloc (.cells #[.int .i64 3, .int .i64 s1, .int .i64 s2] 38) := ⟨_, rfl⟩
  rw [← hW5]
  have hb5 : Below W4.heap.size W4 W5 := by rw [hW5]; exact below_alloc (Below.refl _ _) _
  have hs5 : W5.heap.size = W4.heap.size + 1 := by rw [hW5]; simp
  have hr14 : W5.heap[W4.heap.size]? = some (.cells #[.int .i64 3, .int .i64 s1, .int .i64 s2] 38 (0, 0)) := by rw [hW5]; exact heap_alloc_new W4 _
  have HM := Aside0.mk (show bookAt W5 w.heap.size t _ _ fl ∧ bookAt W5 (w.heap.size + 1) 0 (.slice none 0 0) (.slice none 0 0) false ∧ W5.heap[w.heap.size + 1 + 1]? = some (.cells #[.int .i64 1, .int .i64 a] 29 (0, 0)) ∧ Below w.heap.size w W5 ∧ w.heap.size + 4 ≤ W4.heap.size ∧ W5.heap.size = W4.heap.size + 1 ∧ W5.heap[W4.heap.size]? = some (.cells #[.int .i64 3, .int .i64 s1, .int .i64 s2] 38 (0, 0)) from
    ⟨HF.out.1.below hb5 HF.out.1.lt, HF.out.2.1.below hb5 HF.out.2.1.lt, (hb5.block _ (by have := HF.out.2.2.2.2; omega)).trans HF.out.2.2.1, below_step HF.out.2.2.2.1 hb5, HF.out.2.2.2.2, hs5, hr14⟩)
  have hm1 : W5.cell? ⟨W4.heap.size, 1, none⟩ = some (.int .i64 s1) := (blk_cell hr14 1).trans rfl
  clear hW5 hb5 hs5 hr14 HF hz1 hx0 hx1 hx2
  go_upto_region 8 with (fail)
  clear hm1
  have hz0 := HM.out.1.c0
  have hz1 := HM.out.1.c1
  have hz2 := HM.out.1.c2
  have hz3 := HM.out.1.c3
  have hy0 : W5.cell? ⟨w.heap.size + 1 + 1, 0, none⟩ = some (.int .i64 1) := (blk_cell HM.out.2.2.1 0).trans rfl
  have hy1 : W5.cell? ⟨w.heap.size + 1 + 1, 1, none⟩ = some (.int .i64 a) := (blk_cell HM.out.2.2.1 1).trans rfl
  have hen := ended_any 59 #[] (enters_of Tryd.func59 (by kernel_rfl) rfl) (fun s => ⟨2, s.f1, s.f2⟩) (fun _ => false) t fl (some ad) c0 l0 A1 c1 l1 1 a r1 r2 r3 r4 r5 W5 (Kd.C_below H0.out HM.out.2.2.2.1) (Kd.C_below H1.out HM.out.2.2.2.1) HL0.out.1 HL0.out.2 (HT.out.below HM.out.2.2.2.1)
    (fun W gb gs off u0 u1 s g1 g2 g3 g4 g5 g6 g7 => do_hold W gb gs off t u0 u1 false s g3 g4 g5) hend
  have HEN := Aside0.mk hen
  clear hen hend
  go_upto_region 9 with (go_at_call 45; go_must (refine HEN.out.mono ?_; rintro e_ W6 ⟨v1, v2, rfl, hr1, hr2, hB6⟩; have HR1 := Aside0.mk (Kd.R_mono (Kd.R_bound hr1) (fun k hk => (⟨hk.1, hk.2.1⟩ : _ ∧ W5.heap.size ≤ k))); have HR2 := Aside0.mk (Kd.R_mono (Kd.R_bound hr2) (fun k hk => (⟨hk.1, hk.2.1⟩ : _ ∧ W5.heap.size ≤ k))); have HG := Aside0.mk (show bookAt W6 w.heap.size t _ _ fl ∧ bookAt W6 (w.heap.size + 1) 0 (.slice none 0 0) (.slice none 0 0) false ∧ Below w.heap.size w W6 ∧ W6.heap[W4.heap.size]? = some (.cells #[.int .i64 3, .int .i64 s1, .int .i64 s2] 38 (0, 0)) from ⟨HM.out.1.below hB6 HM.out.1.lt, HM.out.2.1.below hB6 HM.out.2.1.lt, below_step HM.out.2.2.2.1 hB6, (hB6.block _ (by have := HM.out.2.2.2.2.2.1; omega)).trans HM.out.2.2.2.2.2.2⟩); clear hr1 hr2 hB6 HEN hz0 hz1 hz2 hz3 hy0 hy1; obtain ⟨B1, d1_, e1⟩ := Kd.R_slice HR1.out; subst e1; obtain ⟨B2, d2_, e2⟩ := Kd.R_slice HR2.out; subst e2; have hz0 := HG.out.1.c0; have hz1 := HG.out.1.c1; have hz2 := HG.out.1.c2; have hz3 := HG.out.1.c3; have hq0 : W6.frozen? ⟨w.heap.size, 0, none⟩ = false := frozen_of_row _ _ _ _ _ HG.out.1; have hq1 : W6.frozen? ⟨w.heap.size, 1, none⟩ = false := frozen_of_row _ _ _ _ _ HG.out.1; have hq2 : W6.frozen? ⟨w.heap.size, 2, none⟩ = false := frozen_of_row _ _ _ _ _ HG.out.1; have hq3 : W6.frozen? ⟨w.heap.size, 3, none⟩ = false := frozen_of_row _ _ _ _ _ HG.out.1))
  clear hz0 hz1 hz2 hz3 hq0 hq1 hq2 hq3
  obtain ⟨W7, hW7⟩ : ∃ W7, W7 = (((W6.setCell ⟨w.heap.size, 0, none⟩ (.int .i64 r1)).setCell ⟨w.heap.size, 1, none⟩ (.slice B1 r2.length d1_)).setCell ⟨w.heap.size, 2, none⟩ (.slice B2 r3.length d2_)).setCell ⟨w.heap.size, 3, none⟩ (.bool r4) := ⟨_, rfl⟩
  rw [← hW7]
  have hfar : ∀ k, k ≠ w.heap.size → W7.heap[k]? = W6.heap[k]? := fun k hk => by rw [hW7, Below.heap_setCell _ _ _ _ hk, Below.heap_setCell _ _ _ _ hk, Below.heap_setCell _ _ _ _ hk, Below.heap_setCell _ _ _ _ hk]
  have HN := Aside0.mk (show bookAt W7 w.heap.size r1 (.slice B1 r2.length d1_) (.slice B2 r3.length d2_) r4 ∧ bookAt W7 (w.heap.size + 1) 0 (.slice none 0 0) (.slice none 0 0) false ∧ Below w.heap.size w W7 ∧ W7.heap[W4.heap.size]? = some (.cells #[.int .i64 3, .int .i64 s1, .int .i64 s2] 38 (0, 0)) from
    ⟨by rw [hW7]; refine blk_put (cs := #[.int .i64 r1, .slice B1 r2.length d1_, .slice B2 r3.length d2_, .bool fl]) ?_ 3 _ rfl; refine blk_put (cs := #[.int .i64 r1, .slice B1 r2.length d1_, .slice A1 l1.length c1, .bool fl]) ?_ 2 _ rfl; refine blk_put (cs := #[.int .i64 r1, .slice (some ad) l0.length c0, .slice A1 l1.length c1, .bool fl]) ?_ 1 _ rfl; refine blk_put (cs := #[.int .i64 t, .slice (some ad) l0.length c0, .slice A1 l1.length c1, .bool fl]) ?_ 0 _ rfl; exact HG.out.1,
     (hfar _ (by omega)).trans HG.out.2.1, by rw [hW7]; exact (((HG.out.2.2.1.setCell (Nat.le_refl _) _).setCell (Nat.le_refl _) _).setCell (Nat.le_refl _) _).setCell (Nat.le_refl _) _, (hfar _ (by have := HM.out.2.2.2.2.1; omega)).trans HG.out.2.2.2⟩)
  have hsz : w.heap.size + 4 ≤ W5.heap.size := by have := HM.out.2.2.2.2; omega
  have HS := Aside0.mk hsz
  have HQ1 := Aside0.mk (show Kd.R k38 38 W7 W5.heap.size (fun k => some k ≠ (Value.slice B2 r3.length d2_).ownBlock ∧ W5.heap.size ≤ k) (.slice B1 r2.length d1_) r2 from by
    rw [hW7]
    exact Kd.R_far (p := ⟨w.heap.size, 3, none⟩) (Kd.R_far (p := ⟨w.heap.size, 2, none⟩) (Kd.R_far (p := ⟨w.heap.size, 1, none⟩) (Kd.R_far (p := ⟨w.heap.size, 0, none⟩) HR1.out (fun k hk => by have := hk.2; simp; omega) _) (fun k hk => by have := hk.2; simp; omega) _) (fun k hk => by have := hk.2; simp; omega) _) (fun k hk => by have := hk.2; simp; omega) _)
  have HQ2 := Aside0.mk (show Kd.R k38 38 W7 W5.heap.size (fun k => some k ≠ (Value.slice B1 r2.length d1_).ownBlock ∧ W5.heap.size ≤ k) (.slice B2 r3.length d2_) r3 from by
    rw [hW7]
    exact Kd.R_far (p := ⟨w.heap.size, 3, none⟩) (Kd.R_far (p := ⟨w.heap.size, 2, none⟩) (Kd.R_far (p := ⟨w.heap.size, 1, none⟩) (Kd.R_far (p := ⟨w.heap.size, 0, none⟩) HR2.out (fun k hk => by have := hk.2; simp; omega) _) (fun k hk => by have := hk.2; simp; omega) _) (fun k hk => by have := hk.2; simp; omega) _) (fun k hk => by have := hk.2; simp; omega) _)
  clear hW7 hfar HG HR1 HR2 hsz HM
  subst hr5
  have hm0 : W7.cell? ⟨W4.heap.size, 0, none⟩ = some (.int .i64 3) := (blk_cell HN.out.2.2.2 0).trans rfl
  have hm1 : W7.cell? ⟨W4.heap.size, 1, none⟩ = some (.int .i64 s1) := (blk_cell HN.out.2.2.2 1).trans rfl
  obtain ⟨g, cg, eg, hg1, hg2, _⟩ := Kd.R_form HQ1.out (by omega)
  injection eg with eg1 eg2 eg3
  subst eg1 eg3
  have hgo := HQ1.out.1 g rfl
  have HGO := Aside0.mk hgo
  have hta := taskAt_own HQ1.out b hrl
  rw [HRD.out] at hta
  have hcg := do_charge W7 w.heap.size g (b * 3) r1 _ _ r4 ⟨3, s1, s2⟩ HN.out.1 hta (by have := HS.out; omega) hch.1 hch.2
  have HCG := Aside0.mk hcg
  have HRL := Aside0.mk hrl
  have hlt1 : decide ((b : Int) < (r2.length : Int)) = true := by simp; omega
  clear hgo hta hcg hch hg1 hg2
  have hz1 := HN.out.1.c1
  go_upto_region 14 with (go_at_call 50; go_must (refine HCG.out.mono ?_; rintro e_ W8 ⟨rfl, q, hW8⟩; have HP := Aside0.mk (show bookAt W8 w.heap.size r1 _ _ (r4 || decide (s2 + 1 = r1)) ∧ bookAt W8 (w.heap.size + 1) 0 (.slice none 0 0) (.slice none 0 0) false ∧ Below w.heap.size w W8 ∧ True from (by have hs := HS.out; have hq := HGO.out; rw [hW8]; exact ⟨book_put4 HN.out.1 _ _ (by omega), (put4_heap W7 g (b * 3) _ w.heap.size _ _ (by omega) (by omega)).trans HN.out.2.1, pw_below_drewN (below_put4 HN.out.2.2.1 _ _ (by omega) (Nat.le_refl _)) q, trivial⟩)); have HT1 := Aside0.mk (show Kd.R k38 38 W8 W5.heap.size _ _ (r2.set b ⟨0, s1, s2 + 1⟩) from (by have hs := HS.out; rw [hW8]; exact Kd.R_drewN (R_put4 HQ1.out b HRL.out ⟨0, s1, s2 + 1⟩ (r4 || decide (s2 + 1 = r1)) (fun h => by have := h.2; omega)) q)); have HT2 := Aside0.mk (show Kd.R k38 38 W8 W5.heap.size _ _ r3 from (by have hs := HS.out; rw [hW8]; exact Kd.R_drewN (R_put4_far HQ2.out ⟨0, s1, s2 + 1⟩ (r4 || decide (s2 + 1 = r1)) (fun h => h.1 rfl) (fun h => by have := h.2; omega)) q)); clear hW8 HN HCG HQ1 HQ2 hz1 hm0 hm1))
  have hz0 := HP.out.1.c0
  have hz1 := HP.out.1.c1
  have hz2 := HP.out.1.c2
  have hz3 := HP.out.1.c3
  have hc0 : W8.cell? ⟨w.heap.size + 1, 0, none⟩ = some (.int .i64 0) := HP.out.2.1.c0
  have hc1 : W8.cell? ⟨w.heap.size + 1, 1, none⟩ = some (.slice none 0 0) := HP.out.2.1.c1
  have hc2 : W8.cell? ⟨w.heap.size + 1, 2, none⟩ = some (.slice none 0 0) := HP.out.2.1.c2
  have hc3 : W8.cell? ⟨w.heap.size + 1, 3, none⟩ = some (.bool false) := HP.out.2.1.c3
  have hf0 : W8.frozen? ⟨w.heap.size + 1, 0, none⟩ = false := frozen_of_row _ _ _ _ _ HP.out.2.1
  have hf1 : W8.frozen? ⟨w.heap.size + 1, 1, none⟩ = false := frozen_of_row _ _ _ _ _ HP.out.2.1
  have hf2 : W8.frozen? ⟨w.heap.size + 1, 2, none⟩ = false := frozen_of_row _ _ _ _ _ HP.out.2.1
  have hf3 : W8.frozen? ⟨w.heap.size + 1, 3, none⟩ = false := frozen_of_row _ _ _ _ _ HP.out.2.1
  go_wp2_with fail
  refine bodyPost_ret (results_ctt rfl _ _ (w.heap.size + 1) 24 #[.int .i64 r1, .slice (some ⟨g, 0, none⟩) r2.length d1_, .slice B2 r3.length d2_, .bool (r4 || decide (s2 + 1 = r1))] (0, 0) _ rfl (by refine blk_put (cs := #[.int .i64 r1, .slice (some ⟨g, 0, none⟩) r2.length d1_, .slice B2 r3.length d2_, .bool false]) ?_ 3 _ rfl; refine blk_put (cs := #[.int .i64 r1, .slice (some ⟨g, 0, none⟩) r2.length d1_, .slice none 0 0, .bool false]) ?_ 2 _ rfl; refine blk_put (cs := #[.int .i64 r1, .slice none 0 0, .slice none 0 0, .bool false]) ?_ 1 _ rfl; refine blk_put (cs := #[.int .i64 0, .slice none 0 0, .slice none 0 0, .bool false]) ?_ 0 _ rfl; exact HP.out.2.1) Tryd.underlying24 rfl (by kernel_rfl)) rfl ?_
  have hs := HS.out
  refine ⟨_, _, rfl, ?_, ?_, (((HP.out.2.2.1.setCell (by simp) _).setCell (by simp) _).setCell (by simp) _).setCell (by simp) _⟩
  · exact Kd.R_lower (Kd.R_mono (Kd.R_far (p := ⟨w.heap.size + 1, 3, none⟩) (Kd.R_far (p := ⟨w.heap.size + 1, 2, none⟩) (Kd.R_far (p := ⟨w.heap.size + 1, 1, none⟩) (Kd.R_far (p := ⟨w.heap.size + 1, 0, none⟩) HT1.out (fun k hk => by have := hk.2; simp; omega) _) (fun k hk => by have := hk.2; simp; omega) _) (fun k hk => by have := hk.2; simp; omega) _) (fun k hk => by have := hk.2; simp; omega) _) (fun k hk => hk.1)) (by omega)
  · exact Kd.R_lower (Kd.R_mono (Kd.R_far (p := ⟨w.heap.size + 1, 3, none⟩) (Kd.R_far (p := ⟨w.heap.size + 1, 2, none⟩) (Kd.R_far (p := ⟨w.heap.size + 1, 1, none⟩) (Kd.R_far (p := ⟨w.heap.size + 1, 0, none⟩) HT2.out (fun k hk => by have := hk.2; simp; omega) _) (fun k hk => by have := hk.2; simp; omega) _) (fun k hk => by have := hk.2; simp; omega) _) (fun k hk => by have := hk.2; simp; omega) _) (fun k hk => hk.1)) (by omega)
end Go.Proofs.YtponmfnegdlppaaDoor.P

end
section
/- ledger.Blame in the print's form. -/
namespace Go.Proofs.YtponmfnegdlppaaDoor.P
open Go.RowKit Go.Proofs.YtponmfnegdlppaaDoorW.PrintWords Go.Proofs.YtponmfnegdlppaaDoorW.PrintLast Go.Proofs.YtponmfnegdlppaaDoorW.PrintMore
set_option linter.unusedVariables false
set_option linter.unusedSimpArgs false

def holdP (t : Int) (l0 l1 : List S38) (fl : Bool) (a : Int) : Int × List S38 × List S38 × Bool × Int := endP t l0 l1 fl 1 a (fun s => ⟨2, s.f1, s.f2⟩) (fun _ => false)
/-- what is blamed, when the reduce task could be held -/
def chargeP (r : Int × List S38 × List S38 × Bool × Int) (b c : Int) (s : S38) : Int × List S38 × List S38 × Bool × Bool × Int :=
  if s.f0 = 3 ∧ s.f1 = c then (r.1, r.2.1.set b.toNat ⟨0, s.f1, s.f2 + 1⟩, r.2.2.1, r.2.2.2.1 || decide (s.f2 + 1 = r.1), true, 0) else (r.1, r.2.1, r.2.2.1, r.2.2.2.1, false, 0)
/-- a Blame -/
def blameP (t : Int) (l0 l1 : List S38) (fl : Bool) (a b c : Int) : Int × List S38 × List S38 × Bool × Bool × Int :=
  if knownP t l0 l1 fl [⟨1, a⟩, ⟨0, b⟩] = 0 then
    if c < 1 ∨ (rd_T38 l0 b).f1 < c then (0, [], [], false, false, 3)
    else if (holdP t l0 l1 fl a).2.2.2.2 = 0 then chargeP (holdP t l0 l1 fl a) b c (rd_T38 l0 b)
    else (0, [], [], false, false, (holdP t l0 l1 fl a).2.2.2.2)
  else (0, [], [], false, false, knownP t l0 l1 fl [⟨1, a⟩, ⟨0, b⟩])
theorem known_two {t : Int} {l0 l1 : List S38} {fl : Bool} {a b : Int} (h : knownP t l0 l1 fl [⟨1, a⟩, ⟨0, b⟩] = 0) : checkP t l0 l1 fl = 0 ∧ (∃ m : Nat, a = m ∧ m < l1.length) ∧ ∃ n : Nat, b = n ∧ n < l0.length := by
  obtain ⟨h1, h2⟩ := known_zero h
  refine ⟨h1, ?_⟩
  simp only [scanT] at h2
  by_cases hk : okT l0.length l1.length ⟨1, a⟩ = true
  · rw [if_pos hk] at h2
    by_cases hk2 : okT l0.length l1.length ⟨0, b⟩ = true
    · refine ⟨?_, ?_⟩
      · rcases okT_form hk with ⟨h, _⟩ | ⟨_, h⟩
        · exact absurd h (by decide)
        · exact h
      · rcases okT_form hk2 with ⟨_, h⟩ | ⟨h, _⟩
        · exact h
        · exact absurd h (by decide)
    · rw [if_neg hk2] at h2; cases h2
  · rw [if_neg hk] at h2; cases h2
theorem hold_same {t : Int} {l0 l1 : List S38} {fl : Bool} {a : Int} (h : (holdP t l0 l1 fl a).2.2.2.2 = 0) : (holdP t l0 l1 fl a).1 = t ∧ (holdP t l0 l1 fl a).2.1 = l0 := by
  unfold holdP endP at h ⊢
  by_cases hk : knownP t l0 l1 fl [⟨1, a⟩] = 0
  · rw [if_pos hk] at h ⊢
    by_cases h1 : fl = true ∨ (stP l0 l1 1 a).f0 ≠ 1
    · rw [if_pos h1] at h
      exact absurd h (by decide)
    · rw [if_neg h1, if_neg (by decide)] at h ⊢
      exact ⟨rfl, rfl⟩
  · rw [if_neg hk] at h
    exact absurd h hk

theorem blame_any (t : Int) (fl : Bool) (A0 : Option Addr) (c0 : Nat) (l0 : List S38) (A1 : Option Addr) (c1 : Nat) (l1 : List S38) (a b c : Int) (r1 : Int) (r2 r3 : List S38) (r4 r5 : Bool) (r6 : Int) (w : World)
    (h0 : Kd.C k38 w A0 l0.length l0) (h1 : Kd.C k38 w A1 l1.length l1) (hl0 : l0.length ≤ 6000000000000) (hl1 : l1.length ≤ 6000000000000) (hT : Tab w) (h : blameP t l0 l1 fl a b c = (r1, r2, r3, r4, r5, r6)) :
    Calls Tryd.prog 30 #[.agg #[.int .i64 t, .slice A0 l0.length c0, .slice A1 l1.length c1, .bool fl], .int .i64 a, .int .i64 b, .int .i64 c] w fun e_ w' =>
      ∃ v1 v2 : Value, e_ = .returned (.tuple #[.agg #[.int .i64 r1, v1, v2, .bool r4], .bool r5, .int .i64 r6]) ∧ Kd.R k38 38 w' w.heap.size (fun k => some k ≠ v2.ownBlock) v1 r2 ∧ Kd.R k38 38 w' w.heap.size (fun k => some k ≠ v1.ownBlock) v2 r3 ∧ Below w.heap.size w w' := by
  unfold blameP at h
  by_cases hk : knownP t l0 l1 fl [⟨1, a⟩, ⟨0, b⟩] = 0
  · rw [if_pos hk] at h
    obtain ⟨hc, ⟨m, rfl, hm⟩, n, rfl, hn⟩ := known_two hk
    obtain ⟨q1, q2, q3, q4, q5, q6, q7, _⟩ := check_ok hc
    by_cases c1' : c < 1
    · rw [if_pos (.inl c1')] at h
      simp only [Prod.mk.injEq] at h
      obtain ⟨rfl, rfl, rfl, rfl, rfl, rfl⟩ := h
      refine (blame_arg1 t fl A0 c0 l0 A1 c1 l1 m n c w h0 h1 hl0 hl1 hT hk hn c1').mono ?_
      rintro e w' ⟨rfl, hB⟩
      exact ⟨_, _, rfl, Kd.R_nil _ _ _ _ _, Kd.R_nil _ _ _ _ _, hB⟩
    by_cases c2' : (rd_T38 l0 (n : Int)).f1 < c
    · rw [if_pos (.inr c2')] at h
      simp only [Prod.mk.injEq] at h
      obtain ⟨rfl, rfl, rfl, rfl, rfl, rfl⟩ := h
      refine (blame_arg2 t fl A0 c0 l0 A1 c1 l1 m n c w h0 h1 hl0 hl1 hT hk hn c1' c2').mono ?_
      rintro e w' ⟨rfl, hB⟩
      exact ⟨_, _, rfl, Kd.R_nil _ _ _ _ _, Kd.R_nil _ _ _ _ _, hB⟩
    rw [if_neg (by rintro (h | h); exact c1' h; exact c2' h)] at h
    obtain ⟨s1, s2, s3, s4, s5, hh⟩ : ∃ s1 s2 s3 s4 s5, holdP t l0 l1 fl (m : Int) = (s1, s2, s3, s4, s5) := ⟨_, _, _, _, _, rfl⟩
    have hsame := @hold_same t l0 l1 fl (m : Int)
    rw [hh] at h hsame
    simp only at h hsame
    by_cases h5 : s5 = 0
    · rw [if_pos h5] at h
      obtain ⟨e1, e2⟩ := hsame h5
      unfold chargeP at h
      by_cases hg : (rd_T38 l0 (n : Int)).f0 = 3 ∧ (rd_T38 l0 (n : Int)).f1 = c
      · rw [if_pos hg, Int.toNat_natCast] at h
        simp only [Prod.mk.injEq] at h
        obtain ⟨rfl, rfl, rfl, rfl, rfl, rfl⟩ := h
        exact blame_guilty t fl A0 c0 l0 A1 c1 l1 m n c w h0 h1 hl0 hl1 hT hk hn c1' c2' s1 s2 s3 s4 s5 hh h5 hg.1 hg.2 (by rw [e2]) (by rw [e2]; exact hn) (good_charge q2 (q6 _ (rd_mem hn)))
      · rw [if_neg hg] at h
        simp only [Prod.mk.injEq] at h
        obtain ⟨rfl, rfl, rfl, rfl, rfl, rfl⟩ := h
        by_cases h3 : (rd_T38 l0 (n : Int)).f0 = 3
        · exact blame_free3 t fl A0 c0 l0 A1 c1 l1 m n c w h0 h1 hl0 hl1 hT hk hn c1' c2' s1 s2 s3 s4 s5 hh h5 h3 (fun h => hg ⟨h3, h⟩)
        · exact blame_other t fl A0 c0 l0 A1 c1 l1 m n c w h0 h1 hl0 hl1 hT hk hn c1' c2' s1 s2 s3 s4 s5 hh h5 h3
    · rw [if_neg h5] at h
      simp only [Prod.mk.injEq] at h
      obtain ⟨rfl, rfl, rfl, rfl, rfl, rfl⟩ := h
      refine (blame_enderr t fl A0 c0 l0 A1 c1 l1 m n c w h0 h1 hl0 hl1 hT hk hn c1' c2' s1 s2 s3 s4 s5 hh h5).mono ?_
      rintro e w' ⟨rfl, hB⟩
      exact ⟨_, _, rfl, Kd.R_nil _ _ _ _ _, Kd.R_nil _ _ _ _ _, hB⟩
  · rw [if_neg hk] at h
    simp only [Prod.mk.injEq] at h
    obtain ⟨rfl, rfl, rfl, rfl, rfl, rfl⟩ := h
    refine (blame_bad t fl A0 c0 l0 A1 c1 l1 a b c w h0 h1 hl0 hl1 hT _ rfl hk).mono ?_
    rintro e w' ⟨rfl, hB⟩
    exact ⟨_, _, rfl, Kd.R_nil _ _ _ _ _, Kd.R_nil _ _ _ _ _, hB⟩
end Go.Proofs.YtponmfnegdlppaaDoor.P

end
section
/- The document's Blame, by hand (printed by HRefBlame.gen.py). -/
namespace Go.Proofs.YtponmfnegdlppaaDoor.P
open Go.RowKit Go.Proofs.YtponmfnegdlppaaDoorW.PrintWords Go.Proofs.YtponmfnegdlppaaDoorW.PrintLast Go.Proofs.YtponmfnegdlppaaDoorW.PrintMore
set_option linter.unusedVariables false
set_option linter.unusedSimpArgs false

theorem check_two (t : Int) (l0 l1 : List S38) (fl : Bool) : checkP t l0 l1 fl = 0 ∨ checkP t l0 l1 fl = 190 := by
  unfold checkP scan0 scan1 finP
  repeat' split
  all_goals first | exact .inl rfl | exact .inr rfl
set_option maxHeartbeats 4000000 in
set_option maxRecDepth 100000 in
theorem refBlame_any (t : Int) (fl : Bool) (A0 : Option Addr) (c0 : Nat) (l0 : List S38) (A1 : Option Addr) (c1 : Nat) (l1 : List S38) (a b c : Int) (r1 : Int) (r2 r3 : List S38) (r4 r5 : Bool) (r6 : Int) (w : World) (hC0 : Kd.C k38 w A0 l0.length l0) (hc0 : l0.length ≤ c0) (hC1 : Kd.C k38 w A1 l1.length l1) (hc1 : l1.length ≤ c1) (h : blameP t l0 l1 fl a b c = (r1, r2, r3, r4, r5, r6)) :
    Calls Tryd.prog 31 #[.agg #[.int .i64 t, .slice A0 l0.length c0, .slice A1 l1.length c1, .bool fl], .int .i64 a, .int .i64 b, .int .i64 c] w fun e w' => ∃ v1 v2 : Value, e = .returned (.tuple #[.agg #[.int .i64 r1, v1, v2, .bool r4], .bool r5, .int .i64 r6]) ∧ Kd.R k38 38 w' w.heap.size (fun k => some k ≠ v2.ownBlock) v1 r2 ∧ Kd.R k38 38 w' w.heap.size (fun k => some k ≠ v1.ownBlock) v2 r3 ∧ Below w.heap.size w w' := by
  have HC0 := Aside0.mk hC0
  have HC1 := Aside0.mk hC1
  have Hc0 := Aside0.mk hc0
  have Hc1 := Aside0.mk hc1
  have HH := Aside0.mk h
  clear hC0 hC1 hc0 hc1 h
  have hu24 := Tryd.underlying24
  have hu29 := Tryd.underlying29
  have hu38 := Tryd.underlying38
  have hfd0 : ∀ (a b c : Int) (w : World), (Instr.field 38 (.agg #[.int .i64 a, .int .i64 b, .int .i64 c]) 0).run Tryd.prog w = .ok (.int .i64 a) w := fun _ _ _ _ => by rfl
  have hfd1 : ∀ (a b c : Int) (w : World), (Instr.field 38 (.agg #[.int .i64 a, .int .i64 b, .int .i64 c]) 1).run Tryd.prog w = .ok (.int .i64 b) w := fun _ _ _ _ => by rfl
  have z0 : (w.alloc (.cells #[.int .i64 t, .slice A0 l0.length c0, .slice A1 l1.length c1, .bool fl] 24)).heap.size = w.heap.size + 1 := by simp
  have hE0 := ((Env.start w).push #[.int .i64 t, .slice A0 l0.length c0, .slice A1 l1.length c1, .bool fl] 24).push #[.int .i64 0, .slice none 0 0, .slice none 0 0, .bool false] 24
  rw [z0] at hE0
  clear z0
  obtain ⟨g8, hg1⟩ : ∃ g, g = w.heap.size + 1 := ⟨_, rfl⟩
  obtain ⟨g4, hg0⟩ : ∃ g, g = w.heap.size := ⟨_, rfl⟩
  rw [← hg1, ← hg0] at hE0
  obtain ⟨W0, hW0, hE⟩ : ∃ W0, (w.alloc (.cells #[.int .i64 t, .slice A0 l0.length c0, .slice A1 l1.length c1, .bool fl] 24)).alloc (.cells #[.int .i64 0, .slice none 0 0, .slice none 0 0, .bool false] 24) = W0 ∧ Env w _ _ W0 := ⟨_, rfl, hE0⟩
  have HG0 := Aside0.mk hg0
  have HG1 := Aside0.mk hg1
  have HW0 := Aside0.mk hW0
  have HE := Aside0.mk hE
  clear hE hE0 hW0 hg0 hg1
  go_enter Tryd.func31, Tryd.ntmps31
  go_upto_region 1 with fail
  rw [← HG1.out, ← HG0.out, HW0.out]
  clear HW0 HG0 HG1
  go_upto_region 2 with fail
  have hE := HE.out.push #[.int .i64 1, .int .i64 a] 29
  obtain ⟨g11, hg⟩ : ∃ g, g = W0.heap.size := ⟨_, rfl⟩
  rw [← hg] at hE ⊢
  generalize W0.alloc (.cells #[.int .i64 1, .int .i64 a] 29) = w1 at hE ⊢
  clear hg HE
  have HE := Aside0.mk hE
  clear hE
  go_upto_region 3 with fail
  have hE := HE.out.push #[.int .i64 0, .int .i64 b] 29
  obtain ⟨g12, hg⟩ : ∃ g, g = w1.heap.size := ⟨_, rfl⟩
  rw [← hg] at hE ⊢
  generalize w1.alloc (.cells #[.int .i64 0, .int .i64 b] 29) = w2 at hE ⊢
  clear hg HE
  have HE := Aside0.mk hE
  clear hE
  obtain ⟨ck, hck⟩ : ∃ x, checkP t l0 l1 fl = x := ⟨_, rfl⟩
  have HCK := Aside0.mk hck
  clear hck
  have xg4_0 : w2.cell? ⟨g4, 0, none⟩ = some (.int .i64 t) := HE.out.at_ 3 0 rfl rfl
  have xg4_1 : w2.cell? ⟨g4, 1, none⟩ = some (.slice A0 l0.length c0) := HE.out.at_ 3 1 rfl rfl
  have xg4_2 : w2.cell? ⟨g4, 2, none⟩ = some (.slice A1 l1.length c1) := HE.out.at_ 3 2 rfl rfl
  have xg4_3 : w2.cell? ⟨g4, 3, none⟩ = some (.bool fl) := HE.out.at_ 3 3 rfl rfl
  go_wp2_with fail
  refine (winnowref19_Check.calls t _ _ l0 _ _ l1 fl ck _ (HE.out.came HC0.out) Hc0.out (HE.out.came HC1.out) Hc1.out (by unfold winnowref19_Check.f; rw [HCK.out])).mono ?_
  clear xg4_0 xg4_1 xg4_2 xg4_3
  rintro e w3 ⟨rfl, hB⟩
  have hE := HE.out.below hB
  clear HE
  clear hB
  have HE := Aside0.mk hE
  clear hE
  by_cases hz : ck = 0
  rotate_left
  · have hz1 : (ck != 0) = true := bne_iff_ne.2 hz
    have h190 := HCK.out
    have Hz := Aside0.mk hz
    clear hz
    obtain rfl : ck = 190 := by rcases check_two t l0 l1 fl with q | q <;> (have := HCK.out; have := Hz.out; omega)
    clear h190
    have xg8_0 : w3.cell? ⟨g8, 0, none⟩ = some (.int .i64 0) := HE.out.at_ 2 0 rfl rfl
    have xg8_1 : w3.cell? ⟨g8, 1, none⟩ = some (.slice none 0 0) := HE.out.at_ 2 1 rfl rfl
    have xg8_2 : w3.cell? ⟨g8, 2, none⟩ = some (.slice none 0 0) := HE.out.at_ 2 2 rfl rfl
    have xg8_3 : w3.cell? ⟨g8, 3, none⟩ = some (.bool false) := HE.out.at_ 2 3 rfl rfl
    have fg8_0 : w3.frozen? ⟨g8, 0, none⟩ = false := HE.out.fr_ 2 0 rfl
    have fg8_1 : w3.frozen? ⟨g8, 1, none⟩ = false := HE.out.fr_ 2 1 rfl
    have fg8_2 : w3.frozen? ⟨g8, 2, none⟩ = false := HE.out.fr_ 2 2 rfl
    have fg8_3 : w3.frozen? ⟨g8, 3, none⟩ = false := HE.out.fr_ 2 3 rfl
    go_wp2_with fail
    have hE := ((((HE.out.sub (B' := [⟨g8, #[.int .i64 0, .slice none 0 0, .slice none 0 0, .bool false], 24⟩]) (R' := []) (.cons _ (.cons _ (.cons_cons _ (List.nil_sublist _)))) (List.nil_sublist _)).set 0 (.int .i64 0)).set 1 (.slice none 0 0)).set 2 (.slice none 0 0)).set 3 (.bool false)
    clear xg8_0 xg8_1 xg8_2 xg8_3 fg8_0 fg8_1 fg8_2 fg8_3
    have h := HH.out
    have hk : ¬ knownP t l0 l1 fl [⟨1, a⟩, ⟨0, b⟩] = 0 := fun q => Hz.out (by rw [← HCK.out]; exact (known_zero q).1)
    unfold blameP at h
    rw [if_neg hk] at h
    unfold knownP at h
    rw [if_neg (by rw [HCK.out]; exact Hz.out), HCK.out] at h
    simp only [Prod.mk.injEq] at h
    obtain ⟨rfl, rfl, rfl, rfl, rfl, rfl⟩ := h
    refine bodyPost_ret (results_list (rs := [.cell 8 24, .tmp 9, .tmp 10]) rfl (by simp) (.cell g8 24 #[.int .i64 0, .slice none 0 0, .slice none 0 0, .bool false] (0, 0) _ rfl (hE.blk_ 0 rfl) Tryd.underlying24 rfl (by kernel_rfl) (.tmp (.tmp .nil)))) rfl ?_
    exact ⟨_, _, rfl, Kd.R_nil _ _ _ _ _, Kd.R_nil _ _ _ _ _, hE.out⟩
  subst hz
  obtain ⟨o1, ho1⟩ : ∃ x, okT l0.length l1.length ⟨1, a⟩ = x := ⟨_, rfl⟩
  obtain ⟨o0, ho0⟩ : ∃ x, okT l0.length l1.length ⟨0, b⟩ = x := ⟨_, rfl⟩
  have HO1 := Aside0.mk ho1
  have HO0 := Aside0.mk ho0
  clear ho1 ho0
  have xg4_0 : w3.cell? ⟨g4, 0, none⟩ = some (.int .i64 t) := HE.out.at_ 3 0 rfl rfl
  have xg4_1 : w3.cell? ⟨g4, 1, none⟩ = some (.slice A0 l0.length c0) := HE.out.at_ 3 1 rfl rfl
  have xg4_2 : w3.cell? ⟨g4, 2, none⟩ = some (.slice A1 l1.length c1) := HE.out.at_ 3 2 rfl rfl
  have xg4_3 : w3.cell? ⟨g4, 3, none⟩ = some (.bool fl) := HE.out.at_ 3 3 rfl rfl
  have xg11_0 : w3.cell? ⟨g11, 0, none⟩ = some (.int .i64 1) := HE.out.at_ 1 0 rfl rfl
  have xg11_1 : w3.cell? ⟨g11, 1, none⟩ = some (.int .i64 a) := HE.out.at_ 1 1 rfl rfl
  go_wp2_with fail
  refine (winnowref19_there.calls t _ _ l0 _ _ l1 fl 1 a o1 _ (HE.out.came HC0.out) Hc0.out (HE.out.came HC1.out) Hc1.out (by rw [refThere, HO1.out])).mono ?_
  clear xg4_0 xg4_1 xg4_2 xg4_3 xg11_0 xg11_1
  rintro e w4 ⟨rfl, hB⟩
  have hE := HE.out.below hB
  clear HE
  clear hB
  have HE := Aside0.mk hE
  clear hE
  cases o1
  · have xg8_0 : w4.cell? ⟨g8, 0, none⟩ = some (.int .i64 0) := HE.out.at_ 2 0 rfl rfl
    have xg8_1 : w4.cell? ⟨g8, 1, none⟩ = some (.slice none 0 0) := HE.out.at_ 2 1 rfl rfl
    have xg8_2 : w4.cell? ⟨g8, 2, none⟩ = some (.slice none 0 0) := HE.out.at_ 2 2 rfl rfl
    have xg8_3 : w4.cell? ⟨g8, 3, none⟩ = some (.bool false) := HE.out.at_ 2 3 rfl rfl
    have fg8_0 : w4.frozen? ⟨g8, 0, none⟩ = false := HE.out.fr_ 2 0 rfl
    have fg8_1 : w4.frozen? ⟨g8, 1, none⟩ = false := HE.out.fr_ 2 1 rfl
    have fg8_2 : w4.frozen? ⟨g8, 2, none⟩ = false := HE.out.fr_ 2 2 rfl
    have fg8_3 : w4.frozen? ⟨g8, 3, none⟩ = false := HE.out.fr_ 2 3 rfl
    go_wp2_with fail
    have hE := ((((HE.out.sub (B' := [⟨g8, #[.int .i64 0, .slice none 0 0, .slice none 0 0, .bool false], 24⟩]) (R' := []) (.cons _ (.cons _ (.cons_cons _ (List.nil_sublist _)))) (List.nil_sublist _)).set 0 (.int .i64 0)).set 1 (.slice none 0 0)).set 2 (.slice none 0 0)).set 3 (.bool false)
    clear xg8_0 xg8_1 xg8_2 xg8_3 fg8_0 fg8_1 fg8_2 fg8_3
    have h := HH.out
    have hk : ¬ knownP t l0 l1 fl [⟨1, a⟩, ⟨0, b⟩] = 0 := fun q => by have q2 := (known_zero q).2; simp only [scanT] at q2; rw [HO1.out, if_neg (by decide)] at q2; exact absurd q2 (by decide)
    unfold blameP at h
    rw [if_neg hk] at h
    unfold knownP at h
    rw [if_pos HCK.out] at h
    simp only [scanT] at h
    rw [HO1.out, if_neg (by decide)] at h
    simp only [Prod.mk.injEq] at h
    obtain ⟨rfl, rfl, rfl, rfl, rfl, rfl⟩ := h
    refine bodyPost_ret (results_list (rs := [.cell 8 24, .tmp 9, .tmp 10]) rfl (by simp) (.cell g8 24 #[.int .i64 0, .slice none 0 0, .slice none 0 0, .bool false] (0, 0) _ rfl (hE.blk_ 0 rfl) Tryd.underlying24 rfl (by kernel_rfl) (.tmp (.tmp .nil)))) rfl ?_
    exact ⟨_, _, rfl, Kd.R_nil _ _ _ _ _, Kd.R_nil _ _ _ _ _, hE.out⟩
  have xg4_0 : w4.cell? ⟨g4, 0, none⟩ = some (.int .i64 t) := HE.out.at_ 3 0 rfl rfl
  have xg4_1 : w4.cell? ⟨g4, 1, none⟩ = some (.slice A0 l0.length c0) := HE.out.at_ 3 1 rfl rfl
  have xg4_2 : w4.cell? ⟨g4, 2, none⟩ = some (.slice A1 l1.length c1) := HE.out.at_ 3 2 rfl rfl
  have xg4_3 : w4.cell? ⟨g4, 3, none⟩ = some (.bool fl) := HE.out.at_ 3 3 rfl rfl
  have xg12_0 : w4.cell? ⟨g12, 0, none⟩ = some (.int .i64 0) := HE.out.at_ 0 0 rfl rfl
  have xg12_1 : w4.cell? ⟨g12, 1, none⟩ = some (.int .i64 b) := HE.out.at_ 0 1 rfl rfl
  go_wp2_with fail
  refine (winnowref19_there.calls t _ _ l0 _ _ l1 fl 0 b o0 _ (HE.out.came HC0.out) Hc0.out (HE.out.came HC1.out) Hc1.out (by rw [refThere, HO0.out])).mono ?_
  clear xg4_0 xg4_1 xg4_2 xg4_3 xg12_0 xg12_1
  rintro e w5 ⟨rfl, hB⟩
  have hE := HE.out.below hB
  clear HE
  clear hB
  have HE := Aside0.mk hE
  clear hE
  cases o0
  · have xg8_0 : w5.cell? ⟨g8, 0, none⟩ = some (.int .i64 0) := HE.out.at_ 2 0 rfl rfl
    have xg8_1 : w5.cell? ⟨g8, 1, none⟩ = some (.slice none 0 0) := HE.out.at_ 2 1 rfl rfl
    have xg8_2 : w5.cell? ⟨g8, 2, none⟩ = some (.slice none 0 0) := HE.out.at_ 2 2 rfl rfl
    have xg8_3 : w5.cell? ⟨g8, 3, none⟩ = some (.bool false) := HE.out.at_ 2 3 rfl rfl
    have fg8_0 : w5.frozen? ⟨g8, 0, none⟩ = false := HE.out.fr_ 2 0 rfl
    have fg8_1 : w5.frozen? ⟨g8, 1, none⟩ = false := HE.out.fr_ 2 1 rfl
    have fg8_2 : w5.frozen? ⟨g8, 2, none⟩ = false := HE.out.fr_ 2 2 rfl
    have fg8_3 : w5.frozen? ⟨g8, 3, none⟩ = false := HE.out.fr_ 2 3 rfl
    go_wp2_with fail
    have hE := ((((HE.out.sub (B' := [⟨g8, #[.int .i64 0, .slice none 0 0, .slice none 0 0, .bool false], 24⟩]) (R' := []) (.cons _ (.cons _ (.cons_cons _ (List.nil_sublist _)))) (List.nil_sublist _)).set 0 (.int .i64 0)).set 1 (.slice none 0 0)).set 2 (.slice none 0 0)).set 3 (.bool false)
    clear xg8_0 xg8_1 xg8_2 xg8_3 fg8_0 fg8_1 fg8_2 fg8_3
    have h := HH.out
    have hk : ¬ knownP t l0 l1 fl [⟨1, a⟩, ⟨0, b⟩] = 0 := fun q => by have q2 := (known_zero q).2; simp only [scanT] at q2; rw [HO1.out, if_pos rfl, HO0.out, if_neg (by decide)] at q2; exact absurd q2 (by decide)
    unfold blameP at h
    rw [if_neg hk] at h
    unfold knownP at h
    rw [if_pos HCK.out] at h
    simp only [scanT] at h
    rw [HO1.out, if_pos rfl, HO0.out, if_neg (by decide)] at h
    simp only [Prod.mk.injEq] at h
    obtain ⟨rfl, rfl, rfl, rfl, rfl, rfl⟩ := h
    refine bodyPost_ret (results_list (rs := [.cell 8 24, .tmp 9, .tmp 10]) rfl (by simp) (.cell g8 24 #[.int .i64 0, .slice none 0 0, .slice none 0 0, .bool false] (0, 0) _ rfl (hE.blk_ 0 rfl) Tryd.underlying24 rfl (by kernel_rfl) (.tmp (.tmp .nil)))) rfl ?_
    exact ⟨_, _, rfl, Kd.R_nil _ _ _ _ _, Kd.R_nil _ _ _ _ _, hE.out⟩
  have HK := Aside0.mk (show knownP t l0 l1 fl [⟨1, a⟩, ⟨0, b⟩] = 0 by unfold knownP; rw [if_pos HCK.out]; simp only [scanT]; rw [HO1.out, if_pos rfl, HO0.out, if_pos rfl])
  have HT1 := Aside0.mk (show isT l0 l1 1 a from okT_form HO1.out)
  have HT0 := Aside0.mk (show isT l0 l1 0 b from okT_form HO0.out)
  obtain ⟨⟨m0, m1, m2⟩, hm⟩ : ∃ s, stP l0 l1 0 b = s := ⟨_, rfl⟩
  obtain ⟨⟨q0, q1, q2⟩, hq⟩ : ∃ s, stP l0 l1 1 a = s := ⟨_, rfl⟩
  have HM := Aside0.mk hm
  have HQ := Aside0.mk hq
  have HAM := Aside0.mk (show winnowref19_at.f t l0 l1 fl 0 b = some (m0, m1, m2) by rw [refAt t l0 l1 fl 0 b HT0.out, hm])
  have HAQ := Aside0.mk (show winnowref19_at.f t l0 l1 fl 1 a = some (q0, q1, q2) by rw [refAt t l0 l1 fl 1 a HT1.out, hq])
  have HRM := Aside0.mk (show rd_T38 l0 b = ⟨m0, m1, m2⟩ by rw [← hm]; unfold stP; rw [if_pos rfl])
  clear hm hq
  by_cases hc1 : c < 1
  · have hd : decide (c < 1) = true := decide_eq_true hc1
    have Hc := Aside0.mk hc1
    clear hc1
    have xg8_0 : w5.cell? ⟨g8, 0, none⟩ = some (.int .i64 0) := HE.out.at_ 2 0 rfl rfl
    have xg8_1 : w5.cell? ⟨g8, 1, none⟩ = some (.slice none 0 0) := HE.out.at_ 2 1 rfl rfl
    have xg8_2 : w5.cell? ⟨g8, 2, none⟩ = some (.slice none 0 0) := HE.out.at_ 2 2 rfl rfl
    have xg8_3 : w5.cell? ⟨g8, 3, none⟩ = some (.bool false) := HE.out.at_ 2 3 rfl rfl
    have fg8_0 : w5.frozen? ⟨g8, 0, none⟩ = false := HE.out.fr_ 2 0 rfl
    have fg8_1 : w5.frozen? ⟨g8, 1, none⟩ = false := HE.out.fr_ 2 1 rfl
    have fg8_2 : w5.frozen? ⟨g8, 2, none⟩ = false := HE.out.fr_ 2 2 rfl
    have fg8_3 : w5.frozen? ⟨g8, 3, none⟩ = false := HE.out.fr_ 2 3 rfl
    go_wp2_with fail
    have hE := ((((HE.out.sub (B' := [⟨g8, #[.int .i64 0, .slice none 0 0, .slice none 0 0, .bool false], 24⟩]) (R' := []) (.cons _ (.cons _ (.cons_cons _ (List.nil_sublist _)))) (List.nil_sublist _)).set 0 (.int .i64 0)).set 1 (.slice none 0 0)).set 2 (.slice none 0 0)).set 3 (.bool false)
    clear xg8_0 xg8_1 xg8_2 xg8_3 fg8_0 fg8_1 fg8_2 fg8_3
    have h := HH.out
    unfold blameP at h
    rw [if_pos HK.out, if_pos (.inl Hc.out)] at h
    simp only [Prod.mk.injEq] at h
    obtain ⟨rfl, rfl, rfl, rfl, rfl, rfl⟩ := h
    refine bodyPost_ret (results_list (rs := [.cell 8 24, .tmp 9, .tmp 10]) rfl (by simp) (.cell g8 24 #[.int .i64 0, .slice none 0 0, .slice none 0 0, .bool false] (0, 0) _ rfl (hE.blk_ 0 rfl) Tryd.underlying24 rfl (by kernel_rfl) (.tmp (.tmp .nil)))) rfl ?_
    exact ⟨_, _, rfl, Kd.R_nil _ _ _ _ _, Kd.R_nil _ _ _ _ _, hE.out⟩
  have hd : decide (c < 1) = false := decide_eq_false hc1
  have Hcl := Aside0.mk hc1
  clear hc1
  have xg4_0 : w5.cell? ⟨g4, 0, none⟩ = some (.int .i64 t) := HE.out.at_ 3 0 rfl rfl
  have xg4_1 : w5.cell? ⟨g4, 1, none⟩ = some (.slice A0 l0.length c0) := HE.out.at_ 3 1 rfl rfl
  have xg4_2 : w5.cell? ⟨g4, 2, none⟩ = some (.slice A1 l1.length c1) := HE.out.at_ 3 2 rfl rfl
  have xg4_3 : w5.cell? ⟨g4, 3, none⟩ = some (.bool fl) := HE.out.at_ 3 3 rfl rfl
  have xg12_0 : w5.cell? ⟨g12, 0, none⟩ = some (.int .i64 0) := HE.out.at_ 0 0 rfl rfl
  have xg12_1 : w5.cell? ⟨g12, 1, none⟩ = some (.int .i64 b) := HE.out.at_ 0 1 rfl rfl
  go_wp2_with fail
  refine (winnowref19_at.calls t _ _ l0 _ _ l1 fl 0 b m0 m1 m2 _ (HE.out.came HC0.out) Hc0.out (HE.out.came HC1.out) Hc1.out HAM.out).mono ?_
  clear xg4_0 xg4_1 xg4_2 xg4_3 xg12_0 xg12_1
  rintro e w6 ⟨rfl, hB⟩
  have hE := HE.out.below hB
  clear HE
  clear hB
  have HE := Aside0.mk hE
  clear hE
  by_cases hc2 : m1 < c
  · have hd2 : decide (m1 < c) = true := decide_eq_true hc2
    have Hc := Aside0.mk hc2
    clear hc2
    have xg8_0 : w6.cell? ⟨g8, 0, none⟩ = some (.int .i64 0) := HE.out.at_ 2 0 rfl rfl
    have xg8_1 : w6.cell? ⟨g8, 1, none⟩ = some (.slice none 0 0) := HE.out.at_ 2 1 rfl rfl
    have xg8_2 : w6.cell? ⟨g8, 2, none⟩ = some (.slice none 0 0) := HE.out.at_ 2 2 rfl rfl
    have xg8_3 : w6.cell? ⟨g8, 3, none⟩ = some (.bool false) := HE.out.at_ 2 3 rfl rfl
    have fg8_0 : w6.frozen? ⟨g8, 0, none⟩ = false := HE.out.fr_ 2 0 rfl
    have fg8_1 : w6.frozen? ⟨g8, 1, none⟩ = false := HE.out.fr_ 2 1 rfl
    have fg8_2 : w6.frozen? ⟨g8, 2, none⟩ = false := HE.out.fr_ 2 2 rfl
    have fg8_3 : w6.frozen? ⟨g8, 3, none⟩ = false := HE.out.fr_ 2 3 rfl
    go_wp2_with fail
    have hE := ((((HE.out.sub (B' := [⟨g8, #[.int .i64 0, .slice none 0 0, .slice none 0 0, .bool false], 24⟩]) (R' := []) (.cons _ (.cons _ (.cons_cons _ (List.nil_sublist _)))) (List.nil_sublist _)).set 0 (.int .i64 0)).set 1 (.slice none 0 0)).set 2 (.slice none 0 0)).set 3 (.bool false)
    clear xg8_0 xg8_1 xg8_2 xg8_3 fg8_0 fg8_1 fg8_2 fg8_3
    have h := HH.out
    unfold blameP at h
    rw [if_pos HK.out, if_pos (.inr (by rw [HRM.out]; exact Hc.out))] at h
    simp only [Prod.mk.injEq] at h
    obtain ⟨rfl, rfl, rfl, rfl, rfl, rfl⟩ := h
    refine bodyPost_ret (results_list (rs := [.cell 8 24, .tmp 9, .tmp 10]) rfl (by simp) (.cell g8 24 #[.int .i64 0, .slice none 0 0, .slice none 0 0, .bool false] (0, 0) _ rfl (hE.blk_ 0 rfl) Tryd.underlying24 rfl (by kernel_rfl) (.tmp (.tmp .nil)))) rfl ?_
    exact ⟨_, _, rfl, Kd.R_nil _ _ _ _ _, Kd.R_nil _ _ _ _ _, hE.out⟩
  have hd2 : decide (m1 < c) = false := decide_eq_false hc2
  have Hcr := Aside0.mk hc2
  clear hc2
  have HB1 := Aside0.mk (show ¬ (c < 1 ∨ (rd_T38 l0 b).f1 < c) by rw [HRM.out]; have h1_ := Hcl.out; have h2_ := Hcr.out; rintro (q | q) <;> (try dsimp only at q) <;> omega)
  have HKR := Aside0.mk (show knownP t l0 l1 fl [⟨1, a⟩] = 0 by unfold knownP; rw [if_pos HCK.out]; simp only [scanT]; rw [HO1.out, if_pos rfl])
  cases fl
  · have xg4_0 : w6.cell? ⟨g4, 0, none⟩ = some (.int .i64 t) := HE.out.at_ 3 0 rfl rfl
    have xg4_1 : w6.cell? ⟨g4, 1, none⟩ = some (.slice A0 l0.length c0) := HE.out.at_ 3 1 rfl rfl
    have xg4_2 : w6.cell? ⟨g4, 2, none⟩ = some (.slice A1 l1.length c1) := HE.out.at_ 3 2 rfl rfl
    have xg4_3 : w6.cell? ⟨g4, 3, none⟩ = some (.bool false) := HE.out.at_ 3 3 rfl rfl
    have xg11_0 : w6.cell? ⟨g11, 0, none⟩ = some (.int .i64 1) := HE.out.at_ 1 0 rfl rfl
    have xg11_1 : w6.cell? ⟨g11, 1, none⟩ = some (.int .i64 a) := HE.out.at_ 1 1 rfl rfl
    go_wp2_with fail
    refine (winnowref19_at.calls t _ _ l0 _ _ l1 false 1 a q0 q1 q2 _ (HE.out.came HC0.out) Hc0.out (HE.out.came HC1.out) Hc1.out HAQ.out).mono ?_
    clear xg4_0 xg4_1 xg4_2 xg4_3 xg11_0 xg11_1
    rintro e w7 ⟨rfl, hB⟩
    have hE := HE.out.below hB
    clear HE
    clear hB
    have HE := Aside0.mk hE
    clear hE
    by_cases hq0 : q0 = 1
    rotate_left
    · have hd3 : (q0 != 1) = true := bne_iff_ne.2 hq0
      have Hq := Aside0.mk hq0
      clear hq0
      have xg8_0 : w7.cell? ⟨g8, 0, none⟩ = some (.int .i64 0) := HE.out.at_ 2 0 rfl rfl
      have xg8_1 : w7.cell? ⟨g8, 1, none⟩ = some (.slice none 0 0) := HE.out.at_ 2 1 rfl rfl
      have xg8_2 : w7.cell? ⟨g8, 2, none⟩ = some (.slice none 0 0) := HE.out.at_ 2 2 rfl rfl
      have xg8_3 : w7.cell? ⟨g8, 3, none⟩ = some (.bool false) := HE.out.at_ 2 3 rfl rfl
      have fg8_0 : w7.frozen? ⟨g8, 0, none⟩ = false := HE.out.fr_ 2 0 rfl
      have fg8_1 : w7.frozen? ⟨g8, 1, none⟩ = false := HE.out.fr_ 2 1 rfl
      have fg8_2 : w7.frozen? ⟨g8, 2, none⟩ = false := HE.out.fr_ 2 2 rfl
      have fg8_3 : w7.frozen? ⟨g8, 3, none⟩ = false := HE.out.fr_ 2 3 rfl
      go_wp2_with fail
      have hE := ((((HE.out.sub (B' := [⟨g8, #[.int .i64 0, .slice none 0 0, .slice none 0 0, .bool false], 24⟩]) (R' := []) (.cons _ (.cons _ (.cons_cons _ (List.nil_sublist _)))) (List.nil_sublist _)).set 0 (.int .i64 0)).set 1 (.slice none 0 0)).set 2 (.slice none 0 0)).set 3 (.bool false)
      clear xg8_0 xg8_1 xg8_2 xg8_3 fg8_0 fg8_1 fg8_2 fg8_3
      have h := HH.out
      have hh : holdP t l0 l1 false a = (0, [], [], false, 192) := by unfold holdP endP; rw [if_pos HKR.out, HQ.out]; rw [if_pos (.inr Hq.out)]
      unfold blameP at h
      rw [if_pos HK.out, if_neg HB1.out, hh] at h
      rw [if_neg (by decide)] at h
      simp only [Prod.mk.injEq] at h
      obtain ⟨rfl, rfl, rfl, rfl, rfl, rfl⟩ := h
      refine bodyPost_ret (results_list (rs := [.cell 8 24, .tmp 9, .tmp 10]) rfl (by simp) (.cell g8 24 #[.int .i64 0, .slice none 0 0, .slice none 0 0, .bool false] (0, 0) _ rfl (hE.blk_ 0 rfl) Tryd.underlying24 rfl (by kernel_rfl) (.tmp (.tmp .nil)))) rfl ?_
      exact ⟨_, _, rfl, Kd.R_nil _ _ _ _ _, Kd.R_nil _ _ _ _ _, hE.out⟩
    subst hq0
    have xg4_0 : w7.cell? ⟨g4, 0, none⟩ = some (.int .i64 t) := HE.out.at_ 3 0 rfl rfl
    have xg4_1 : w7.cell? ⟨g4, 1, none⟩ = some (.slice A0 l0.length c0) := HE.out.at_ 3 1 rfl rfl
    have xg4_2 : w7.cell? ⟨g4, 2, none⟩ = some (.slice A1 l1.length c1) := HE.out.at_ 3 2 rfl rfl
    have xg4_3 : w7.cell? ⟨g4, 3, none⟩ = some (.bool false) := HE.out.at_ 3 3 rfl rfl
    have xg11_0 : w7.cell? ⟨g11, 0, none⟩ = some (.int .i64 1) := HE.out.at_ 1 0 rfl rfl
    have xg11_1 : w7.cell? ⟨g11, 1, none⟩ = some (.int .i64 a) := HE.out.at_ 1 1 rfl rfl
    go_wp2_with fail
    refine (winnowref19_at.calls t _ _ l0 _ _ l1 false 1 a 1 q1 q2 _ (HE.out.came HC0.out) Hc0.out (HE.out.came HC1.out) Hc1.out HAQ.out).mono ?_
    clear xg4_0 xg4_1 xg4_2 xg4_3 xg11_0 xg11_1
    rintro e w8 ⟨rfl, hB⟩
    have hE := HE.out.below hB
    clear HE
    clear hB
    have HE := Aside0.mk hE
    clear hE
    go_upto_region 12 with fail
    have hE := HE.out.push #[.int .i64 1, .int .i64 q1, .int .i64 q2] 38
    obtain ⟨g13, hg⟩ : ∃ g, g = w8.heap.size := ⟨_, rfl⟩
    rw [← hg] at hE ⊢
    generalize w8.alloc (.cells #[.int .i64 1, .int .i64 q1, .int .i64 q2] 38) = w9 at hE ⊢
    clear hg HE
    have HE := Aside0.mk hE
    clear hE
    have xg13_0 : w9.cell? ⟨g13, 0, none⟩ = some (.int .i64 1) := HE.out.at_ 0 0 rfl rfl
    have xg13_1 : w9.cell? ⟨g13, 1, none⟩ = some (.int .i64 q1) := HE.out.at_ 0 1 rfl rfl
    have xg13_2 : w9.cell? ⟨g13, 2, none⟩ = some (.int .i64 q2) := HE.out.at_ 0 2 rfl rfl
    have fg13_0 : w9.frozen? ⟨g13, 0, none⟩ = false := HE.out.fr_ 0 0 rfl
    go_upto_region 13 with fail
    have hE := HE.out.set 0 (.int .i64 2)
    generalize w9.setCell ⟨g13, 0, none⟩ (.int .i64 2) = w10 at hE ⊢
    clear xg13_0 xg13_1 xg13_2 fg13_0
    clear HE
    have HE : Aside0 (Env w (⟨g13, #[.int .i64 2, .int .i64 q1, .int .i64 q2], 38⟩ :: _) _ w10) := Aside0.mk hE
    clear hE
    obtain ⟨L1, hL1⟩ : ∃ L, l1.set a.toNat (⟨2, q1, q2⟩ : S38) = L := ⟨_, rfl⟩
    have HL1 := Aside0.mk hL1
    clear hL1
    obtain ⟨bl0, bl1⟩ := len_ok HCK.out
    have HBL0 := Aside0.mk bl0
    have HBL1 := Aside0.mk bl1
    clear bl0 bl1
    have xg4_0 : w10.cell? ⟨g4, 0, none⟩ = some (.int .i64 t) := HE.out.at_ 4 0 rfl rfl
    have xg4_1 : w10.cell? ⟨g4, 1, none⟩ = some (.slice A0 l0.length c0) := HE.out.at_ 4 1 rfl rfl
    have xg4_2 : w10.cell? ⟨g4, 2, none⟩ = some (.slice A1 l1.length c1) := HE.out.at_ 4 2 rfl rfl
    have xg4_3 : w10.cell? ⟨g4, 3, none⟩ = some (.bool false) := HE.out.at_ 4 3 rfl rfl
    have xg11_0 : w10.cell? ⟨g11, 0, none⟩ = some (.int .i64 1) := HE.out.at_ 2 0 rfl rfl
    have xg11_1 : w10.cell? ⟨g11, 1, none⟩ = some (.int .i64 a) := HE.out.at_ 2 1 rfl rfl
    have xg13_0 : w10.cell? ⟨g13, 0, none⟩ = some (.int .i64 2) := HE.out.at_ 0 0 rfl rfl
    have xg13_1 : w10.cell? ⟨g13, 1, none⟩ = some (.int .i64 q1) := HE.out.at_ 0 1 rfl rfl
    have xg13_2 : w10.cell? ⟨g13, 2, none⟩ = some (.int .i64 q2) := HE.out.at_ 0 2 rfl rfl
    go_wp2_with fail
    refine (winnowref19_with.calls t _ _ l0 _ _ l1 false 1 a 2 q1 q2 t l0 L1 false _ (HE.out.came HC0.out) Hc0.out (HE.out.came HC1.out) Hc1.out (by rw [refWith t l0 l1 false 1 a 2 q1 q2 HT1.out HBL0.out HBL1.out]; unfold putP; rw [if_neg (by decide), HL1.out])).mono ?_
    clear xg4_0 xg4_1 xg4_2 xg4_3 xg11_0 xg11_1 xg13_0 xg13_1 xg13_2
    rintro e w11 ⟨v0, v1, rfl, s0, s1, hB⟩
    have hE := HE.out.rows2 hB rfl s0 s1 1 2 (by decide) (by decide) (by decide)
    clear HE
    obtain ⟨D0, d0, rfl⟩ := Kd.R_slice s0
    obtain ⟨D1, d1, rfl⟩ := Kd.R_slice s1
    clear hB s0 s1
    have HE := Aside0.mk hE
    clear hE
    go_upto_region 14 with fail
    have hE := HE.out.push #[.int .i64 t, .slice D0 l0.length d0, .slice D1 L1.length d1, .bool false] 24
    obtain ⟨g14, hg⟩ : ∃ g, g = w11.heap.size := ⟨_, rfl⟩
    rw [← hg] at hE ⊢
    generalize w11.alloc (.cells #[.int .i64 t, .slice D0 l0.length d0, .slice D1 L1.length d1, .bool false] 24) = w12 at hE ⊢
    clear hg HE
    have HE := Aside0.mk hE
    clear hE
    have xg4_0 : w12.cell? ⟨g4, 0, none⟩ = some (.int .i64 t) := HE.out.at_ 5 0 rfl rfl
    have xg4_1 : w12.cell? ⟨g4, 1, none⟩ = some (.slice A0 l0.length c0) := HE.out.at_ 5 1 rfl rfl
    have xg4_2 : w12.cell? ⟨g4, 2, none⟩ = some (.slice A1 l1.length c1) := HE.out.at_ 5 2 rfl rfl
    have xg4_3 : w12.cell? ⟨g4, 3, none⟩ = some (.bool false) := HE.out.at_ 5 3 rfl rfl
    have xg12_0 : w12.cell? ⟨g12, 0, none⟩ = some (.int .i64 0) := HE.out.at_ 2 0 rfl rfl
    have xg12_1 : w12.cell? ⟨g12, 1, none⟩ = some (.int .i64 b) := HE.out.at_ 2 1 rfl rfl
    go_wp2_with fail
    refine (winnowref19_at.calls t _ _ l0 _ _ l1 false 0 b m0 m1 m2 _ (HE.out.came HC0.out) Hc0.out (HE.out.came HC1.out) Hc1.out HAM.out).mono ?_
    clear xg4_0 xg4_1 xg4_2 xg4_3 xg12_0 xg12_1
    rintro e w13 ⟨rfl, hB⟩
    have hE := HE.out.below hB
    clear HE
    clear hB
    have HE := Aside0.mk hE
    clear hE
    by_cases hm0 : m0 = 3
    rotate_left
    · have hd3 : (m0 != 3) = true := bne_iff_ne.2 hm0
      have Hm := Aside0.mk hm0
      clear hm0
      have xg14_0 : w13.cell? ⟨g14, 0, none⟩ = some (.int .i64 t) := HE.out.at_ 0 0 rfl rfl
      have xg14_1 : w13.cell? ⟨g14, 1, none⟩ = some (.slice D0 l0.length d0) := HE.out.at_ 0 1 rfl rfl
      have xg14_2 : w13.cell? ⟨g14, 2, none⟩ = some (.slice D1 L1.length d1) := HE.out.at_ 0 2 rfl rfl
      have xg14_3 : w13.cell? ⟨g14, 3, none⟩ = some (.bool false) := HE.out.at_ 0 3 rfl rfl
      have xg8_0 : w13.cell? ⟨g8, 0, none⟩ = some (.int .i64 0) := HE.out.at_ 4 0 rfl rfl
      have xg8_1 : w13.cell? ⟨g8, 1, none⟩ = some (.slice none 0 0) := HE.out.at_ 4 1 rfl rfl
      have xg8_2 : w13.cell? ⟨g8, 2, none⟩ = some (.slice none 0 0) := HE.out.at_ 4 2 rfl rfl
      have xg8_3 : w13.cell? ⟨g8, 3, none⟩ = some (.bool false) := HE.out.at_ 4 3 rfl rfl
      have fg8_0 : w13.frozen? ⟨g8, 0, none⟩ = false := HE.out.fr_ 4 0 rfl
      have fg8_1 : w13.frozen? ⟨g8, 1, none⟩ = false := HE.out.fr_ 4 1 rfl
      have fg8_2 : w13.frozen? ⟨g8, 2, none⟩ = false := HE.out.fr_ 4 2 rfl
      have fg8_3 : w13.frozen? ⟨g8, 3, none⟩ = false := HE.out.fr_ 4 3 rfl
      go_wp2_with fail
      have hE := ((((HE.out.sub (B' := [⟨g8, #[.int .i64 0, .slice none 0 0, .slice none 0 0, .bool false], 24⟩]) (.cons _ (.cons _ (.cons _ (.cons _ (.cons_cons _ (List.nil_sublist _)))))) (List.Sublist.refl _)).set 0 (.int .i64 t)).set 1 (.slice D0 l0.length d0)).set 2 (.slice D1 L1.length d1)).set 3 (.bool false)
      clear xg14_0 xg14_1 xg14_2 xg14_3 xg8_0 xg8_1 xg8_2 xg8_3 fg8_0 fg8_1 fg8_2 fg8_3
      have h := HH.out
      have hh : holdP t l0 l1 false a = (t, l0, L1, false, 0) := by unfold holdP endP; rw [if_pos HKR.out, HQ.out]; rw [if_neg (by rintro (q | q); exact absurd q (by decide); exact q rfl), if_neg (by decide), HL1.out]
      unfold blameP at h
      rw [if_pos HK.out, if_neg HB1.out, hh] at h
      rw [if_pos rfl, HRM.out] at h
      unfold chargeP at h
      rw [if_neg (fun q => Hm.out q.1)] at h
      simp only [Prod.mk.injEq] at h
      obtain ⟨rfl, rfl, rfl, rfl, rfl, rfl⟩ := h
      refine bodyPost_ret (results_list (rs := [.cell 8 24, .tmp 9, .tmp 10]) rfl (by simp) (.cell g8 24 #[.int .i64 t, .slice D0 l0.length d0, .slice D1 L1.length d1, .bool false] (0, 0) _ rfl (hE.blk_ 0 rfl) Tryd.underlying24 rfl (by kernel_rfl) (.tmp (.tmp .nil)))) rfl ?_
      have q := hE.own2_ 0 1 rfl rfl (by decide)
      exact ⟨_, _, rfl, q.1, q.2, hE.out⟩
    subst hm0
    have xg4_0 : w13.cell? ⟨g4, 0, none⟩ = some (.int .i64 t) := HE.out.at_ 5 0 rfl rfl
    have xg4_1 : w13.cell? ⟨g4, 1, none⟩ = some (.slice A0 l0.length c0) := HE.out.at_ 5 1 rfl rfl
    have xg4_2 : w13.cell? ⟨g4, 2, none⟩ = some (.slice A1 l1.length c1) := HE.out.at_ 5 2 rfl rfl
    have xg4_3 : w13.cell? ⟨g4, 3, none⟩ = some (.bool false) := HE.out.at_ 5 3 rfl rfl
    have xg12_0 : w13.cell? ⟨g12, 0, none⟩ = some (.int .i64 0) := HE.out.at_ 2 0 rfl rfl
    have xg12_1 : w13.cell? ⟨g12, 1, none⟩ = some (.int .i64 b) := HE.out.at_ 2 1 rfl rfl
    go_wp2_with fail
    refine (winnowref19_at.calls t _ _ l0 _ _ l1 false 0 b 3 m1 m2 _ (HE.out.came HC0.out) Hc0.out (HE.out.came HC1.out) Hc1.out HAM.out).mono ?_
    clear xg4_0 xg4_1 xg4_2 xg4_3 xg12_0 xg12_1
    rintro e w14 ⟨rfl, hB⟩
    have hE := HE.out.below hB
    clear HE
    clear hB
    have HE := Aside0.mk hE
    clear hE
    by_cases hm1 : m1 = c
    rotate_left
    · have hd3 : (m1 != c) = true := bne_iff_ne.2 hm1
      have Hm := Aside0.mk hm1
      clear hm1
      have xg14_0 : w14.cell? ⟨g14, 0, none⟩ = some (.int .i64 t) := HE.out.at_ 0 0 rfl rfl
      have xg14_1 : w14.cell? ⟨g14, 1, none⟩ = some (.slice D0 l0.length d0) := HE.out.at_ 0 1 rfl rfl
      have xg14_2 : w14.cell? ⟨g14, 2, none⟩ = some (.slice D1 L1.length d1) := HE.out.at_ 0 2 rfl rfl
      have xg14_3 : w14.cell? ⟨g14, 3, none⟩ = some (.bool false) := HE.out.at_ 0 3 rfl rfl
      have xg8_0 : w14.cell? ⟨g8, 0, none⟩ = some (.int .i64 0) := HE.out.at_ 4 0 rfl rfl
      have xg8_1 : w14.cell? ⟨g8, 1, none⟩ = some (.slice none 0 0) := HE.out.at_ 4 1 rfl rfl
      have xg8_2 : w14.cell? ⟨g8, 2, none⟩ = some (.slice none 0 0) := HE.out.at_ 4 2 rfl rfl
      have xg8_3 : w14.cell? ⟨g8, 3, none⟩ = some (.bool false) := HE.out.at_ 4 3 rfl rfl
      have fg8_0 : w14.frozen? ⟨g8, 0, none⟩ = false := HE.out.fr_ 4 0 rfl
      have fg8_1 : w14.frozen? ⟨g8, 1, none⟩ = false := HE.out.fr_ 4 1 rfl
      have fg8_2 : w14.frozen? ⟨g8, 2, none⟩ = false := HE.out.fr_ 4 2 rfl
      have fg8_3 : w14.frozen? ⟨g8, 3, none⟩ = false := HE.out.fr_ 4 3 rfl
      go_wp2_with fail
      have hE := ((((HE.out.sub (B' := [⟨g8, #[.int .i64 0, .slice none 0 0, .slice none 0 0, .bool false], 24⟩]) (.cons _ (.cons _ (.cons _ (.cons _ (.cons_cons _ (List.nil_sublist _)))))) (List.Sublist.refl _)).set 0 (.int .i64 t)).set 1 (.slice D0 l0.length d0)).set 2 (.slice D1 L1.length d1)).set 3 (.bool false)
      clear xg14_0 xg14_1 xg14_2 xg14_3 xg8_0 xg8_1 xg8_2 xg8_3 fg8_0 fg8_1 fg8_2 fg8_3
      have h := HH.out
      have hh : holdP t l0 l1 false a = (t, l0, L1, false, 0) := by unfold holdP endP; rw [if_pos HKR.out, HQ.out]; rw [if_neg (by rintro (q | q); exact absurd q (by decide); exact q rfl), if_neg (by decide), HL1.out]
      unfold blameP at h
      rw [if_pos HK.out, if_neg HB1.out, hh] at h
      rw [if_pos rfl, HRM.out] at h
      unfold chargeP at h
      rw [if_neg (fun q => Hm.out q.2)] at h
      simp only [Prod.mk.injEq] at h
      obtain ⟨rfl, rfl, rfl, rfl, rfl, rfl⟩ := h
      refine bodyPost_ret (results_list (rs := [.cell 8 24, .tmp 9, .tmp 10]) rfl (by simp) (.cell g8 24 #[.int .i64 t, .slice D0 l0.length d0, .slice D1 L1.length d1, .bool false] (0, 0) _ rfl (hE.blk_ 0 rfl) Tryd.underlying24 rfl (by kernel_rfl) (.tmp (.tmp .nil)))) rfl ?_
      have q := hE.own2_ 0 1 rfl rfl (by decide)
      exact ⟨_, _, rfl, q.1, q.2, hE.out⟩
    have hd3 : (m1 != c) = false := bne_eq_false_iff_eq.2 hm1
    have Hm1 := Aside0.mk hm1
    clear hm1
    obtain ⟨F, hF⟩ : ∃ F, decide (m2 + 1 = t) = F := ⟨_, rfl⟩
    obtain ⟨L0, hL0⟩ : ∃ L, l0.set b.toNat (⟨0, m1, m2 + 1⟩ : S38) = L := ⟨_, rfl⟩
    have HF := Aside0.mk hF
    have HL0 := Aside0.mk hL0
    clear hF hL0
    have HCH := Aside0.mk (show winnowref19_charged.f t l0 L1 false 0 b = some (t, L0, L1, F) by
      obtain ⟨held, hg⟩ := st_good HCK.out HT0.out
      rw [HM.out] at hg
      have e : stP l0 L1 0 b = ⟨3, m1, m2⟩ := by rw [← HM.out]; unfold stP; rw [if_pos rfl, if_pos rfl]
      obtain ⟨z1, z2, z3, z4, z5, z6, z7, _⟩ := check_ok HCK.out
      have hg2 := good_charge z2 hg
      rw [refCharged t l0 L1 false 0 b (by rcases HT0.out with q | q; exact .inl q; exact absurd q.1 (by decide)) HBL0.out (by rw [← HL1.out, List.length_set]; exact HBL1.out) (by rw [e]; exact hg2), e]
      unfold putP
      rw [if_pos rfl]
      dsimp only
      rw [HF.out, HL0.out])
    have q3 := HE.out.row_ 0 rfl
    have q4 := HE.out.row_ 1 rfl
    have m3 := (HE.out.cap_ 0 rfl).2
    have m4 := (HE.out.cap_ 1 rfl).2
    have Q3 := Aside0.mk q3
    have Q4 := Aside0.mk q4
    have M3 := Aside0.mk m3
    have M4 := Aside0.mk m4
    clear q3 q4 m3 m4
    have xg14_0 : w14.cell? ⟨g14, 0, none⟩ = some (.int .i64 t) := HE.out.at_ 0 0 rfl rfl
    have xg14_1 : w14.cell? ⟨g14, 1, none⟩ = some (.slice D0 l0.length d0) := HE.out.at_ 0 1 rfl rfl
    have xg14_2 : w14.cell? ⟨g14, 2, none⟩ = some (.slice D1 L1.length d1) := HE.out.at_ 0 2 rfl rfl
    have xg14_3 : w14.cell? ⟨g14, 3, none⟩ = some (.bool false) := HE.out.at_ 0 3 rfl rfl
    have xg12_0 : w14.cell? ⟨g12, 0, none⟩ = some (.int .i64 0) := HE.out.at_ 2 0 rfl rfl
    have xg12_1 : w14.cell? ⟨g12, 1, none⟩ = some (.int .i64 b) := HE.out.at_ 2 1 rfl rfl
    go_wp2_with fail
    refine (winnowref19_charged.calls t _ _ l0 _ _ L1 false 0 b t L0 L1 F _ Q3.out M3.out Q4.out M4.out HCH.out).mono ?_
    clear xg14_0 xg14_1 xg14_2 xg14_3 xg12_0 xg12_1
    rintro e w15 ⟨v2, v3, rfl, s0, s1, hB⟩
    have hE := (HE.out.rows2 hB rfl s0 s1 3 4 (show ([3, 4, 1, 2] : List Nat).Nodup from by decide) (by decide) (by decide))
    clear HE
    obtain ⟨E0, e0, rfl⟩ := Kd.R_slice s0
    obtain ⟨E1, e1, rfl⟩ := Kd.R_slice s1
    clear hB s0 s1 Q3 Q4 M3 M4
    have HE := Aside0.mk hE
    clear hE
    have xg8_0 : w15.cell? ⟨g8, 0, none⟩ = some (.int .i64 0) := HE.out.at_ 4 0 rfl rfl
    have xg8_1 : w15.cell? ⟨g8, 1, none⟩ = some (.slice none 0 0) := HE.out.at_ 4 1 rfl rfl
    have xg8_2 : w15.cell? ⟨g8, 2, none⟩ = some (.slice none 0 0) := HE.out.at_ 4 2 rfl rfl
    have xg8_3 : w15.cell? ⟨g8, 3, none⟩ = some (.bool false) := HE.out.at_ 4 3 rfl rfl
    have fg8_0 : w15.frozen? ⟨g8, 0, none⟩ = false := HE.out.fr_ 4 0 rfl
    have fg8_1 : w15.frozen? ⟨g8, 1, none⟩ = false := HE.out.fr_ 4 1 rfl
    have fg8_2 : w15.frozen? ⟨g8, 2, none⟩ = false := HE.out.fr_ 4 2 rfl
    have fg8_3 : w15.frozen? ⟨g8, 3, none⟩ = false := HE.out.fr_ 4 3 rfl
    go_wp2_with fail
    have hE := ((((HE.out.sub (B' := [⟨g8, #[.int .i64 0, .slice none 0 0, .slice none 0 0, .bool false], 24⟩]) (.cons _ (.cons _ (.cons _ (.cons _ (.cons_cons _ (List.nil_sublist _)))))) (List.Sublist.refl _)).set 0 (.int .i64 t)).set 1 (.slice E0 L0.length e0)).set 2 (.slice E1 L1.length e1)).set 3 (.bool F)
    clear xg8_0 xg8_1 xg8_2 xg8_3 fg8_0 fg8_1 fg8_2 fg8_3
    have h := HH.out
    have hh : holdP t l0 l1 false a = (t, l0, L1, false, 0) := by unfold holdP endP; rw [if_pos HKR.out, HQ.out]; rw [if_neg (by rintro (q | q); exact absurd q (by decide); exact q rfl), if_neg (by decide), HL1.out]
    unfold blameP at h
    rw [if_pos HK.out, if_neg HB1.out, hh] at h
    rw [if_pos rfl, HRM.out] at h
    unfold chargeP at h
    rw [if_pos ⟨rfl, Hm1.out⟩] at h
    simp only [Prod.mk.injEq, Bool.false_or] at h
    rw [HL0.out, HF.out] at h
    obtain ⟨rfl, rfl, rfl, rfl, rfl, rfl⟩ := h
    refine bodyPost_ret (results_list (rs := [.cell 8 24, .tmp 9, .tmp 10]) rfl (by simp) (.cell g8 24 #[.int .i64 t, .slice E0 L0.length e0, .slice E1 L1.length e1, .bool F] (0, 0) _ rfl (hE.blk_ 0 rfl) Tryd.underlying24 rfl (by kernel_rfl) (.tmp (.tmp .nil)))) rfl ?_
    have q := hE.own2_ 0 1 rfl rfl (by decide)
    exact ⟨_, _, rfl, q.1, q.2, hE.out⟩
  · have xg4_0 : w6.cell? ⟨g4, 0, none⟩ = some (.int .i64 t) := HE.out.at_ 3 0 rfl rfl
    have xg4_1 : w6.cell? ⟨g4, 1, none⟩ = some (.slice A0 l0.length c0) := HE.out.at_ 3 1 rfl rfl
    have xg4_2 : w6.cell? ⟨g4, 2, none⟩ = some (.slice A1 l1.length c1) := HE.out.at_ 3 2 rfl rfl
    have xg4_3 : w6.cell? ⟨g4, 3, none⟩ = some (.bool true) := HE.out.at_ 3 3 rfl rfl
    have xg8_0 : w6.cell? ⟨g8, 0, none⟩ = some (.int .i64 0) := HE.out.at_ 2 0 rfl rfl
    have xg8_1 : w6.cell? ⟨g8, 1, none⟩ = some (.slice none 0 0) := HE.out.at_ 2 1 rfl rfl
    have xg8_2 : w6.cell? ⟨g8, 2, none⟩ = some (.slice none 0 0) := HE.out.at_ 2 2 rfl rfl
    have xg8_3 : w6.cell? ⟨g8, 3, none⟩ = some (.bool false) := HE.out.at_ 2 3 rfl rfl
    have fg8_0 : w6.frozen? ⟨g8, 0, none⟩ = false := HE.out.fr_ 2 0 rfl
    have fg8_1 : w6.frozen? ⟨g8, 1, none⟩ = false := HE.out.fr_ 2 1 rfl
    have fg8_2 : w6.frozen? ⟨g8, 2, none⟩ = false := HE.out.fr_ 2 2 rfl
    have fg8_3 : w6.frozen? ⟨g8, 3, none⟩ = false := HE.out.fr_ 2 3 rfl
    go_wp2_with fail
    have hE := ((((HE.out.sub (B' := [⟨g8, #[.int .i64 0, .slice none 0 0, .slice none 0 0, .bool false], 24⟩]) (R' := []) (.cons _ (.cons _ (.cons_cons _ (List.nil_sublist _)))) (List.nil_sublist _)).set 0 (.int .i64 0)).set 1 (.slice none 0 0)).set 2 (.slice none 0 0)).set 3 (.bool false)
    clear xg4_0 xg4_1 xg4_2 xg4_3 xg8_0 xg8_1 xg8_2 xg8_3 fg8_0 fg8_1 fg8_2 fg8_3
    have h := HH.out
    have hh : holdP t l0 l1 true a = (0, [], [], false, 192) := by unfold holdP endP; rw [if_pos HKR.out, if_pos (.inl rfl)]
    unfold blameP at h
    rw [if_pos HK.out, if_neg HB1.out, hh] at h
    rw [if_neg (by decide)] at h
    simp only [Prod.mk.injEq] at h
    obtain ⟨rfl, rfl, rfl, rfl, rfl, rfl⟩ := h
    refine bodyPost_ret (results_list (rs := [.cell 8 24, .tmp 9, .tmp 10]) rfl (by simp) (.cell g8 24 #[.int .i64 0, .slice none 0 0, .slice none 0 0, .bool false] (0, 0) _ rfl (hE.blk_ 0 rfl) Tryd.underlying24 rfl (by kernel_rfl) (.tmp (.tmp .nil)))) rfl ?_
    exact ⟨_, _, rfl, Kd.R_nil _ _ _ _ _, Kd.R_nil _ _ _ _ _, hE.out⟩
end Go.Proofs.YtponmfnegdlppaaDoor.P

end
section
/- The law on blames: its walk (printed by HLaws.gen.py). -/
namespace Go.Proofs.YtponmfnegdlppaaDoor.P
open Go.RowKit Go.Proofs.YtponmfnegdlppaaDoorW.PrintWords Go.Proofs.YtponmfnegdlppaaDoorW.PrintLast Go.Proofs.YtponmfnegdlppaaDoorW.PrintMore
set_option linter.unusedVariables false
set_option linter.unusedSimpArgs false

theorem holdP_len {t : Int} {l0 l1 : List S38} {fl : Bool} {a : Int} : (holdP t l0 l1 fl a).2.1.length ≤ 100000 ∧ (holdP t l0 l1 fl a).2.2.1.length ≤ 100000 := by
  unfold holdP endP
  by_cases hk : knownP t l0 l1 fl [⟨1, a⟩] = 0
  · rw [if_pos hk]
    have hl := len_ok (known_one hk).1
    by_cases h1 : fl = true ∨ (stP l0 l1 1 a).f0 ≠ 1
    · rw [if_pos h1]; exact ⟨by simp, by simp⟩
    · rw [if_neg h1, if_neg (by decide)]
      dsimp only
      rw [List.length_set]
      exact hl
  · rw [if_neg hk]; exact ⟨by simp, by simp⟩
theorem blameP_len {t : Int} {l0 l1 : List S38} {fl : Bool} {a b c r1 : Int} {r2 r3 : List S38} {r4 r5 : Bool} {r6 : Int} (h : blameP t l0 l1 fl a b c = (r1, r2, r3, r4, r5, r6)) : r2.length ≤ 100000 ∧ r3.length ≤ 100000 := by
  have hh := @holdP_len t l0 l1 fl a
  unfold blameP chargeP at h
  repeat' split at h
  all_goals (simp only [Prod.mk.injEq] at h; obtain ⟨_, rfl, rfl, _⟩ := h)
  all_goals first | exact ⟨by simp, by simp⟩ | exact hh | (rw [List.length_set]; exact hh)
set_option maxHeartbeats 8000000 in
set_option maxRecDepth 100000 in
theorem LedgerBlames_walk (t : Int) (A0 : Option Addr) (c0 : Nat) (l0 : List S38) (A1 : Option Addr) (c1 : Nat) (l1 : List S38) (fl : Bool) (a b c : Int) (w : World) (hC0 : Kd.C k38 w A0 l0.length l0) (hc0 : l0.length ≤ c0) (hC1 : Kd.C k38 w A1 l1.length l1) (hc1 : l1.length ≤ c1) (hl0 : l0.length ≤ 6000000000000) (hl1 : l1.length ≤ 6000000000000) (hT : Tab w) :
    Calls Tryd.prog 6 #[.agg #[.int .i64 t, .slice A0 l0.length c0, .slice A1 l1.length c1, .bool fl], .int .i64 a, .int .i64 b, .int .i64 c] w fun e w' => e = .returned (.bool true) ∧ Below w.heap.size w w' := by
  have HC0 := Aside0.mk hC0
  have HC1 := Aside0.mk hC1
  have Hc0 := Aside0.mk hc0
  have Hc1 := Aside0.mk hc1
  have HL0 := Aside0.mk hl0
  have HL1 := Aside0.mk hl1
  have HT := Aside0.mk hT
  have HTL0 := Aside0.mk (turn_eq l0 hl0).2
  have HTL1 := Aside0.mk (turn_eq l1 hl1).2
  clear hC0 hC1 hc0 hc1 hl0 hl1 hT
  have hu22 := Tryd.underlying22
  have hu24 := Tryd.underlying24
  have hu29 := Tryd.underlying29
  obtain ⟨⟨d1, d2, d3, d4, d5, d6⟩, hd⟩ : ∃ r, blameP t l0 l1 fl a b c = r := ⟨_, rfl⟩
  obtain ⟨⟨p1, p2, p3, p4, p5, p6⟩, hp⟩ : ∃ r, blameP t (turn l0) (turn l1) fl a b c = r := ⟨_, rfl⟩
  have HD := Aside0.mk hd
  have HP := Aside0.mk hp
  have dLEN := Aside0.mk (blameP_len hd)
  have pLEN := Aside0.mk (blameP_len hp)
  clear hd hp
  have HLT0 := Aside0.mk (show (turn l0).length ≤ 6000000000000 by rw [HTL0.out]; exact HL0.out)
  have HLT1 := Aside0.mk (show (turn l1).length ≤ 6000000000000 by rw [HTL1.out]; exact HL1.out)
  have hE0 := (Env.start w).push #[.int .i64 t, .slice A0 l0.length c0, .slice A1 l1.length c1, .bool fl] 24
  obtain ⟨g4, hg0⟩ : ∃ g, g = w.heap.size := ⟨_, rfl⟩
  rw [← hg0] at hE0
  obtain ⟨W0, hW0, hE⟩ : ∃ W0, w.alloc (.cells #[.int .i64 t, .slice A0 l0.length c0, .slice A1 l1.length c1, .bool fl] 24) = W0 ∧ Env w _ _ W0 := ⟨_, rfl, hE0⟩
  have HG0 := Aside0.mk hg0
  have HW0 := Aside0.mk hW0
  have HE := Aside0.mk hE
  clear hE hE0 hW0 hg0
  go_enter Tryd.func6, Tryd.ntmps6
  go_upto_region 1 with fail
  rw [← HG0.out, HW0.out]
  clear HW0 HG0
  have xg4_0 : W0.cell? ⟨g4, 0, none⟩ = some (.int .i64 t) := HE.out.at_ 0 0 rfl rfl
  have xg4_1 : W0.cell? ⟨g4, 1, none⟩ = some (.slice A0 l0.length c0) := HE.out.at_ 0 1 rfl rfl
  have xg4_2 : W0.cell? ⟨g4, 2, none⟩ = some (.slice A1 l1.length c1) := HE.out.at_ 0 2 rfl rfl
  have xg4_3 : W0.cell? ⟨g4, 3, none⟩ = some (.bool fl) := HE.out.at_ 0 3 rfl rfl
  go_wp2_with fail
  refine (given_any t fl A0 c0 l0 A1 c1 l1 _ (HE.out.came HC0.out) Hc0.out (HE.out.came HC1.out) Hc1.out HL0.out HL1.out).mono ?_
  clear xg4_0 xg4_1 xg4_2 xg4_3
  rintro e w1 ⟨X0, x0, X1, x1, rfl, hx0, hx1, s0, s1, hB⟩
  have hE := HE.out.rows2 hB rfl s0 s1 1 2 (show ([1, 2] : List Nat).Nodup from by decide) (by decide) (by decide)
  have Hx0 := Aside0.mk hx0
  have Hx1 := Aside0.mk hx1
  clear hB s0 s1 HE hx0 hx1
  have HE := Aside0.mk hE
  clear hE
  go_upto_region 2 with fail
  have hE := HE.out.push #[.int .i64 t, .slice X0 l0.length x0, .slice X1 l1.length x1, .bool fl] 24
  obtain ⟨g9, hg⟩ : ∃ g, g = w1.heap.size := ⟨_, rfl⟩
  rw [← hg] at hE ⊢
  generalize w1.alloc (.cells #[.int .i64 t, .slice X0 l0.length x0, .slice X1 l1.length x1, .bool fl] 24) = w2 at hE ⊢
  clear hg HE
  have HE := Aside0.mk hE
  clear hE
  have xg9_0 : w2.cell? ⟨g9, 0, none⟩ = some (.int .i64 t) := HE.out.at_ 0 0 rfl rfl
  have xg9_1 : w2.cell? ⟨g9, 1, none⟩ = some (.slice X0 l0.length x0) := HE.out.at_ 0 1 rfl rfl
  have xg9_2 : w2.cell? ⟨g9, 2, none⟩ = some (.slice X1 l1.length x1) := HE.out.at_ 0 2 rfl rfl
  have xg9_3 : w2.cell? ⟨g9, 3, none⟩ = some (.bool fl) := HE.out.at_ 0 3 rfl rfl
  go_wp2_with fail
  refine (blame_any t fl _ _ l0 _ _ l1 a b c d1 d2 d3 d4 d5 d6 _ (C_front (HE.out.row_ 0 rfl)) (C_front (HE.out.row_ 1 rfl)) HL0.out HL1.out (HE.out.tab HT.out) HD.out).mono ?_
  clear xg9_0 xg9_1 xg9_2 xg9_3
  rintro e w3 ⟨v0, v1, rfl, s0, s1, hB⟩
  have hE := HE.out.rows2 hB rfl s0 s1 3 4 (show ([3, 4, 1, 2] : List Nat).Nodup from by decide) (by decide) (by decide)
  obtain ⟨P0, p0_, rfl⟩ := Kd.R_slice s0
  obtain ⟨P1, p1_, rfl⟩ := Kd.R_slice s1
  clear hB s0 s1 HE
  have HE := Aside0.mk hE
  clear hE
  go_upto_region 3 with fail
  have hE := HE.out.push #[.int .i64 d1, .slice P0 d2.length p0_, .slice P1 d3.length p1_, .bool d4] 24
  obtain ⟨g10, hg⟩ : ∃ g, g = w3.heap.size := ⟨_, rfl⟩
  rw [← hg] at hE ⊢
  generalize w3.alloc (.cells #[.int .i64 d1, .slice P0 d2.length p0_, .slice P1 d3.length p1_, .bool d4] 24) = w4 at hE ⊢
  clear hg HE
  have HE := Aside0.mk hE
  clear hE
  have xg9_0 : w4.cell? ⟨g9, 0, none⟩ = some (.int .i64 t) := HE.out.at_ 1 0 rfl rfl
  have xg9_1 : w4.cell? ⟨g9, 1, none⟩ = some (.slice X0 l0.length x0) := HE.out.at_ 1 1 rfl rfl
  have xg9_2 : w4.cell? ⟨g9, 2, none⟩ = some (.slice X1 l1.length x1) := HE.out.at_ 1 2 rfl rfl
  have xg9_3 : w4.cell? ⟨g9, 3, none⟩ = some (.bool fl) := HE.out.at_ 1 3 rfl rfl
  go_wp2_with fail
  refine (blame_any t fl _ _ l0 _ _ l1 a b c d1 d2 d3 d4 d5 d6 _ (C_front (HE.out.row_ 2 rfl)) (C_front (HE.out.row_ 3 rfl)) HL0.out HL1.out (HE.out.tab HT.out) HD.out).mono ?_
  clear xg9_0 xg9_1 xg9_2 xg9_3
  rintro e w5 ⟨v0, v1, rfl, s0, s1, hB⟩
  have hE := HE.out.rows2 hB rfl s0 s1 5 6 (show ([5, 6, 3, 4, 1, 2] : List Nat).Nodup from by decide) (by decide) (by decide)
  obtain ⟨Q0, q0_, rfl⟩ := Kd.R_slice s0
  obtain ⟨Q1, q1_, rfl⟩ := Kd.R_slice s1
  clear hB s0 s1 HE
  have HE := Aside0.mk hE
  clear hE
  go_upto_region 4 with fail
  have hE := HE.out.push #[.int .i64 d1, .slice Q0 d2.length q0_, .slice Q1 d3.length q1_, .bool d4] 24
  obtain ⟨g13, hg⟩ : ∃ g, g = w5.heap.size := ⟨_, rfl⟩
  rw [← hg] at hE ⊢
  generalize w5.alloc (.cells #[.int .i64 d1, .slice Q0 d2.length q0_, .slice Q1 d3.length q1_, .bool d4] 24) = w6 at hE ⊢
  clear hg HE
  have HE := Aside0.mk hE
  clear hE
  have xg4_0 : w6.cell? ⟨g4, 0, none⟩ = some (.int .i64 t) := HE.out.at_ 3 0 rfl rfl
  have xg4_1 : w6.cell? ⟨g4, 1, none⟩ = some (.slice A0 l0.length c0) := HE.out.at_ 3 1 rfl rfl
  have xg4_2 : w6.cell? ⟨g4, 2, none⟩ = some (.slice A1 l1.length c1) := HE.out.at_ 3 2 rfl rfl
  have xg4_3 : w6.cell? ⟨g4, 3, none⟩ = some (.bool fl) := HE.out.at_ 3 3 rfl rfl
  go_wp2_with fail
  refine (refBlame_any t fl _ _ l0 _ _ l1 a b c d1 d2 d3 d4 d5 d6 _ (HE.out.came HC0.out) Hc0.out (HE.out.came HC1.out) Hc1.out HD.out).mono ?_
  clear xg4_0 xg4_1 xg4_2 xg4_3
  rintro e w7 ⟨v0, v1, rfl, s0, s1, hB⟩
  have hE := HE.out.rows2 hB rfl s0 s1 7 8 (show ([7, 8, 5, 6, 3, 4, 1, 2] : List Nat).Nodup from by decide) (by decide) (by decide)
  obtain ⟨Z0, z0_, rfl⟩ := Kd.R_slice s0
  obtain ⟨Z1, z1_, rfl⟩ := Kd.R_slice s1
  clear hB s0 s1 HE
  have HE := Aside0.mk hE
  clear hE
  go_upto_region 5 with fail
  have hE := HE.out.push #[.int .i64 d1, .slice Z0 d2.length z0_, .slice Z1 d3.length z1_, .bool d4] 24
  obtain ⟨g16, hg⟩ : ∃ g, g = w7.heap.size := ⟨_, rfl⟩
  rw [← hg] at hE ⊢
  generalize w7.alloc (.cells #[.int .i64 d1, .slice Z0 d2.length z0_, .slice Z1 d3.length z1_, .bool d4] 24) = w8 at hE ⊢
  clear hg HE
  have HE := Aside0.mk hE
  clear hE
  have xg10_0 : w8.cell? ⟨g10, 0, none⟩ = some (.int .i64 d1) := HE.out.at_ 2 0 rfl rfl
  have xg10_1 : w8.cell? ⟨g10, 1, none⟩ = some (.slice P0 d2.length p0_) := HE.out.at_ 2 1 rfl rfl
  have xg10_2 : w8.cell? ⟨g10, 2, none⟩ = some (.slice P1 d3.length p1_) := HE.out.at_ 2 2 rfl rfl
  have xg10_3 : w8.cell? ⟨g10, 3, none⟩ = some (.bool d4) := HE.out.at_ 2 3 rfl rfl
  have xg13_0 : w8.cell? ⟨g13, 0, none⟩ = some (.int .i64 d1) := HE.out.at_ 1 0 rfl rfl
  have xg13_1 : w8.cell? ⟨g13, 1, none⟩ = some (.slice Q0 d2.length q0_) := HE.out.at_ 1 1 rfl rfl
  have xg13_2 : w8.cell? ⟨g13, 2, none⟩ = some (.slice Q1 d3.length q1_) := HE.out.at_ 1 2 rfl rfl
  have xg13_3 : w8.cell? ⟨g13, 3, none⟩ = some (.bool d4) := HE.out.at_ 1 3 rfl rfl
  have xg16_0 : w8.cell? ⟨g16, 0, none⟩ = some (.int .i64 d1) := HE.out.at_ 0 0 rfl rfl
  have xg16_1 : w8.cell? ⟨g16, 1, none⟩ = some (.slice Z0 d2.length z0_) := HE.out.at_ 0 1 rfl rfl
  have xg16_2 : w8.cell? ⟨g16, 2, none⟩ = some (.slice Z1 d3.length z1_) := HE.out.at_ 0 2 rfl rfl
  have xg16_3 : w8.cell? ⟨g16, 3, none⟩ = some (.bool d4) := HE.out.at_ 0 3 rfl rfl
  go_wp2_with fail
  have hE : Env w _ (⟨3, k38, 38, .slice P0 d2.length p0_, d2⟩ :: ⟨4, k38, 38, .slice P1 d3.length p1_, d3⟩ :: ⟨5, k38, 38, .slice Q0 d2.length q0_, d2⟩ :: ⟨6, k38, 38, .slice Q1 d3.length q1_, d3⟩ :: ⟨7, k38, 38, .slice Z0 d2.length z0_, d2⟩ :: ⟨8, k38, 38, .slice Z1 d3.length z1_, d3⟩ :: ⟨1, k38, 38, .slice X0 (l0 ++ marks).length x0, (l0 ++ marks)⟩ :: ⟨2, k38, 38, .slice X1 (l1 ++ marks).length x1, (l1 ++ marks)⟩ :: []) _ := HE.out.pick [4, 5, 2, 3, 0, 1, 6, 7] (show ([3, 4, 5, 6, 7, 8, 1, 2] : List Nat).Nodup from by decide)
  clear HE
  have HE := Aside0.mk hE
  clear hE
  refine (apart_env d1 d4 HE.out dLEN.out.1 dLEN.out.2).mono ?_
  clear xg10_0 xg10_1 xg10_2 xg10_3 xg13_0 xg13_1 xg13_2 xg13_3 xg16_0 xg16_1 xg16_2 xg16_3
  rintro e w9 ⟨rfl, hE⟩
  clear HE
  have HE := Aside0.mk hE
  clear hE
  have xg9_0 : w9.cell? ⟨g9, 0, none⟩ = some (.int .i64 t) := HE.out.at_ 3 0 rfl rfl
  have xg9_1 : w9.cell? ⟨g9, 1, none⟩ = some (.slice X0 l0.length x0) := HE.out.at_ 3 1 rfl rfl
  have xg9_2 : w9.cell? ⟨g9, 2, none⟩ = some (.slice X1 l1.length x1) := HE.out.at_ 3 2 rfl rfl
  have xg9_3 : w9.cell? ⟨g9, 3, none⟩ = some (.bool fl) := HE.out.at_ 3 3 rfl rfl
  have xg4_0 : w9.cell? ⟨g4, 0, none⟩ = some (.int .i64 t) := HE.out.at_ 4 0 rfl rfl
  have xg4_1 : w9.cell? ⟨g4, 1, none⟩ = some (.slice A0 l0.length c0) := HE.out.at_ 4 1 rfl rfl
  have xg4_2 : w9.cell? ⟨g4, 2, none⟩ = some (.slice A1 l1.length c1) := HE.out.at_ 4 2 rfl rfl
  have xg4_3 : w9.cell? ⟨g4, 3, none⟩ = some (.bool fl) := HE.out.at_ 4 3 rfl rfl
  go_wp2_with fail
  refine (kept_any t fl X0 A0 x0 c0 l0 X1 A1 x1 c1 l1 _ (HE.out.row_ 0 rfl) (HE.out.row_ 1 rfl) (C_front (HE.out.row_ 0 rfl)) (C_front (HE.out.row_ 1 rfl)) (HE.out.came HC0.out) (HE.out.came HC1.out) Hx0.out Hx1.out Hc0.out Hc1.out HL0.out HL1.out).mono ?_
  clear xg9_0 xg9_1 xg9_2 xg9_3 xg4_0 xg4_1 xg4_2 xg4_3
  rintro e w10 ⟨rfl, hB⟩
  have hE := HE.out.below hB
  clear HE hB
  have HE := Aside0.mk hE
  clear hE
  go_upto_region 7 with fail
  have xg9_0 : w10.cell? ⟨g9, 0, none⟩ = some (.int .i64 t) := HE.out.at_ 3 0 rfl rfl
  have xg9_1 : w10.cell? ⟨g9, 1, none⟩ = some (.slice X0 l0.length x0) := HE.out.at_ 3 1 rfl rfl
  have xg9_2 : w10.cell? ⟨g9, 2, none⟩ = some (.slice X1 l1.length x1) := HE.out.at_ 3 2 rfl rfl
  have xg9_3 : w10.cell? ⟨g9, 3, none⟩ = some (.bool fl) := HE.out.at_ 3 3 rfl rfl
  go_wp2_with fail
  have hE : Env w _ (⟨1, k38, 38, .slice X0 (l0 ++ marks).length x0, (l0 ++ marks)⟩ :: ⟨2, k38, 38, .slice X1 (l1 ++ marks).length x1, (l1 ++ marks)⟩ :: []) _ := HE.out.pick [0, 1] (show ([1, 2] : List Nat).Nodup from by decide)
  clear HE
  have HE := Aside0.mk hE
  clear hE
  have hE := HE.out.front.swap.front.swap
  clear HE
  have HE := Aside0.mk hE
  clear hE
  refine (turned_env t fl HE.out HL0.out HL1.out).mono ?_
  clear xg9_0 xg9_1 xg9_2 xg9_3
  rintro e w11 ⟨rfl, hE⟩
  clear HE
  have HE := Aside0.mk hE
  clear hE
  go_wp2_with fail
  have qc := blame_any t fl X0 x0 (turn l0) X1 x1 (turn l1) a b c p1 p2 p3 p4 p5 p6 _ (HE.out.row_ 0 rfl) (HE.out.row_ 1 rfl) HLT0.out HLT1.out (HE.out.tab HT.out) HP.out
  rw [HTL0.out, HTL1.out] at qc
  refine (qc).mono ?_
  rintro e w12 ⟨v0, v1, rfl, s0, s1, hB⟩
  have hE := HE.out.rows2 hB rfl s0 s1 9 10 (show ([9, 10, 1, 2] : List Nat).Nodup from by decide) (by decide) (by decide)
  obtain ⟨U0, u0_, rfl⟩ := Kd.R_slice s0
  obtain ⟨U1, u1_, rfl⟩ := Kd.R_slice s1
  clear hB s0 s1 HE
  have HE := Aside0.mk hE
  clear hE
  clear qc
  go_upto_region 8 with fail
  have hE := HE.out.push #[.int .i64 p1, .slice U0 p2.length u0_, .slice U1 p3.length u1_, .bool p4] 24
  obtain ⟨g19, hg⟩ : ∃ g, g = w12.heap.size := ⟨_, rfl⟩
  rw [← hg] at hE ⊢
  generalize w12.alloc (.cells #[.int .i64 p1, .slice U0 p2.length u0_, .slice U1 p3.length u1_, .bool p4] 24) = w13 at hE ⊢
  clear hg HE
  have HE := Aside0.mk hE
  clear hE
  have xg4_0 : w13.cell? ⟨g4, 0, none⟩ = some (.int .i64 t) := HE.out.at_ 5 0 rfl rfl
  have xg4_1 : w13.cell? ⟨g4, 1, none⟩ = some (.slice A0 l0.length c0) := HE.out.at_ 5 1 rfl rfl
  have xg4_2 : w13.cell? ⟨g4, 2, none⟩ = some (.slice A1 l1.length c1) := HE.out.at_ 5 2 rfl rfl
  have xg4_3 : w13.cell? ⟨g4, 3, none⟩ = some (.bool fl) := HE.out.at_ 5 3 rfl rfl
  go_wp2_with fail
  refine (given_any t fl A0 c0 l0 A1 c1 l1 _ (HE.out.came HC0.out) Hc0.out (HE.out.came HC1.out) Hc1.out HL0.out HL1.out).mono ?_
  clear xg4_0 xg4_1 xg4_2 xg4_3
  rintro e w14 ⟨Y0, y0, Y1, y1, rfl, hx0, hx1, s0, s1, hB⟩
  have hE := HE.out.rows2 hB rfl s0 s1 11 12 (show ([11, 12, 9, 10, 1, 2] : List Nat).Nodup from by decide) (by decide) (by decide)
  have Hy0 := Aside0.mk hx0
  have Hy1 := Aside0.mk hx1
  clear hB s0 s1 HE hx0 hx1
  have HE := Aside0.mk hE
  clear hE
  have hE : Env w _ (⟨11, k38, 38, .slice Y0 (l0 ++ marks).length y0, (l0 ++ marks)⟩ :: ⟨12, k38, 38, .slice Y1 (l1 ++ marks).length y1, (l1 ++ marks)⟩ :: ⟨9, k38, 38, .slice U0 p2.length u0_, p2⟩ :: ⟨10, k38, 38, .slice U1 p3.length u1_, p3⟩ :: ⟨1, k38, 38, .slice X0 l0.length x0, (turn l0)⟩ :: ⟨2, k38, 38, .slice X1 l1.length x1, (turn l1)⟩ :: []) _ := HE.out.pick [0, 1, 2, 3, 4, 5] (show ([11, 12, 9, 10, 1, 2] : List Nat).Nodup from by decide)
  clear HE
  have HE := Aside0.mk hE
  clear hE
  have hE := HE.out.front.swap.front.swap
  clear HE
  have HE := Aside0.mk hE
  clear hE
  go_wp2_with fail
  refine (turned_env t fl HE.out HL0.out HL1.out).mono ?_
  rintro e w15 ⟨rfl, hE⟩
  clear HE
  have HE := Aside0.mk hE
  clear hE
  go_wp2_with fail
  have qc := refBlame_any t fl Y0 y0 (turn l0) Y1 y1 (turn l1) a b c p1 p2 p3 p4 p5 p6 _ (HE.out.row_ 0 rfl) (by rw [HTL0.out]; have := Hy0.out; omega) (HE.out.row_ 1 rfl) (by rw [HTL1.out]; have := Hy1.out; omega) HP.out
  rw [HTL0.out, HTL1.out] at qc
  refine (qc).mono ?_
  rintro e w16 ⟨v0, v1, rfl, s0, s1, hB⟩
  have hE := HE.out.rows2 hB rfl s0 s1 13 14 (show ([13, 14, 11, 12, 9, 10, 1, 2] : List Nat).Nodup from by decide) (by decide) (by decide)
  obtain ⟨V0, v0_, rfl⟩ := Kd.R_slice s0
  obtain ⟨V1, v1_, rfl⟩ := Kd.R_slice s1
  clear hB s0 s1 HE
  have HE := Aside0.mk hE
  clear hE
  clear qc
  go_upto_region 9 with fail
  have hE := HE.out.push #[.int .i64 p1, .slice V0 p2.length v0_, .slice V1 p3.length v1_, .bool p4] 24
  obtain ⟨g22, hg⟩ : ∃ g, g = w16.heap.size := ⟨_, rfl⟩
  rw [← hg] at hE ⊢
  generalize w16.alloc (.cells #[.int .i64 p1, .slice V0 p2.length v0_, .slice V1 p3.length v1_, .bool p4] 24) = w17 at hE ⊢
  clear hg HE
  have HE := Aside0.mk hE
  clear hE
  have xg19_0 : w17.cell? ⟨g19, 0, none⟩ = some (.int .i64 p1) := HE.out.at_ 1 0 rfl rfl
  have xg19_1 : w17.cell? ⟨g19, 1, none⟩ = some (.slice U0 p2.length u0_) := HE.out.at_ 1 1 rfl rfl
  have xg19_2 : w17.cell? ⟨g19, 2, none⟩ = some (.slice U1 p3.length u1_) := HE.out.at_ 1 2 rfl rfl
  have xg19_3 : w17.cell? ⟨g19, 3, none⟩ = some (.bool p4) := HE.out.at_ 1 3 rfl rfl
  have xg22_0 : w17.cell? ⟨g22, 0, none⟩ = some (.int .i64 p1) := HE.out.at_ 0 0 rfl rfl
  have xg22_1 : w17.cell? ⟨g22, 1, none⟩ = some (.slice V0 p2.length v0_) := HE.out.at_ 0 1 rfl rfl
  have xg22_2 : w17.cell? ⟨g22, 2, none⟩ = some (.slice V1 p3.length v1_) := HE.out.at_ 0 2 rfl rfl
  have xg22_3 : w17.cell? ⟨g22, 3, none⟩ = some (.bool p4) := HE.out.at_ 0 3 rfl rfl
  go_wp2_with fail
  have q := winnowlaw19_same.calls (p2.length + p3.length + 1) p1 _ _ p2 _ _ p3 p4 p1 _ _ p2 _ _ p3 p4 true _ (HE.out.row_ 4 rfl) (HE.out.cap_ 4 rfl).2 (HE.out.row_ 5 rfl) (HE.out.cap_ 5 rfl).2 (HE.out.row_ 0 rfl) (HE.out.cap_ 0 rfl).2 (HE.out.row_ 1 rfl) (HE.out.cap_ 1 rfl).2 (same_book p1 p4 p2 p3 (by have := pLEN.out.1; omega) (by have := pLEN.out.2; omega) _ (by omega) (by omega))
  refine q.mono ?_
  clear xg19_0 xg19_1 xg19_2 xg19_3 xg22_0 xg22_1 xg22_2 xg22_3
  clear q
  rintro e w18 ⟨rfl, hB⟩
  have hE := HE.out.below hB
  clear HE hB
  have HE := Aside0.mk hE
  clear hE
  go_wp2_with fail
  go_ret
  exact ⟨by first | rfl | simp, HE.out.out⟩
/-- The law as a function with a contract: true of whatever is not too long. -/
def winnowlaw19_LedgerBlames.f (a0_0 : Int) (l0_1 l0_2 : List S38) (a0_3 : Bool) (a1 : Int) (a2 : Int) (a3 : Int) : Option Bool := if small l0_1 l0_2 then some true else none
theorem winnowlaw19_LedgerBlames.calls (a0_0 : Int) (A0_1 : Option Addr) (c0_1 : Nat) (l0_1 : List S38) (A0_2 : Option Addr) (c0_2 : Nat) (l0_2 : List S38) (a0_3 : Bool) (a1 : Int) (a2 : Int) (a3 : Int) (r : Bool) (w : World) (hr0_1 : Kd.C k38 w A0_1 l0_1.length l0_1) (hc0_1 : l0_1.length ≤ c0_1) (hr0_2 : Kd.C k38 w A0_2 l0_2.length l0_2) (hc0_2 : l0_2.length ≤ c0_2) (h : winnowlaw19_LedgerBlames.f a0_0 l0_1 l0_2 a0_3 a1 a2 a3 = some r) (hTAB_ : Tab w) :
    Calls Tryd.prog 6 #[.agg #[.int .i64 a0_0, .slice A0_1 l0_1.length c0_1, .slice A0_2 l0_2.length c0_2, .bool a0_3], .int .i64 a1, .int .i64 a2, .int .i64 a3] w fun e w' => e = .returned (.bool r) ∧ Below w.heap.size w w' := by
  unfold winnowlaw19_LedgerBlames.f at h
  by_cases hs : small l0_1 l0_2
  · rw [if_pos hs] at h
    injection h with h
    subst h
    exact LedgerBlames_walk a0_0 A0_1 c0_1 l0_1 A0_2 c0_2 l0_2 a0_3 a1 a2 a3 w hr0_1 hc0_1 hr0_2 hc0_2 hs.1 hs.2 hTAB_
  · rw [if_neg hs] at h
    cases h
end Go.Proofs.YtponmfnegdlppaaDoor.P

end
