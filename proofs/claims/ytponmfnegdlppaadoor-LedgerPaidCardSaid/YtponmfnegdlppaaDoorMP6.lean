/- Several texts laid together (wip/tools/merge2.py): HBlame. -/
import Derived.Test.YtponmfnegdlppaaDoorMP5
section
/- ledger.Blame, by hand (printed by HBlame.gen.py). -/
namespace Go.Proofs.YtponmfnegdlppaaDoor.P
open Go.RowKit Go.Proofs.YtponmfnegdlppaaDoorW.PrintWords Go.Proofs.YtponmfnegdlppaaDoorW.PrintLast Go.Proofs.YtponmfnegdlppaaDoorW.PrintMore
set_option linter.unusedVariables false
set_option linter.unusedSimpArgs false

theorem C_two (W : World) (k b k2 b2 : Int) : Kd.C k29 (W.alloc (.cells #[.int .i64 k, .int .i64 b, .int .i64 k2, .int .i64 b2] 29)) (some ⟨W.heap.size, 0, none⟩) 2 [⟨k, b⟩, ⟨k2, b2⟩] := by
  have h : Kd.R k29 29 (W.alloc (.cells #[.int .i64 k, .int .i64 b, .int .i64 k2, .int .i64 b2] 29)) W.heap.size (fun _ => True) (.slice (some ⟨W.heap.size, 0, none⟩) 2 2) [⟨k, b⟩, ⟨k2, b2⟩] :=
    ⟨fun _ _ => trivial, [.int .i64 k, .int .i64 b, .int .i64 k2, .int .i64 b2], World.ownsRow_lit (base := W.heap.size) (e := 29) (size := k29.sz) W #[.int .i64 k, .int .i64 b, .int .i64 k2, .int .i64 b2] 2 (Nat.le_refl _) (by simp [maxLen]) (by rfl), Reps.c2 (k29_mkM _ _ _ ⟨k, b⟩) (Reps.c2 (k29_mkM _ _ _ ⟨k2, b2⟩) (Reps.none _ _))⟩
  exact (Kd.R_reads' h).2.2
/-- the blocks that Blame lays first -/
structure lays4 (w W3 : World) (t : Int) (u0 u1 : Value) (fl : Bool) (a b : Int) : Prop where
  q0 : Below w.heap.size w W3
  q1 : W3.heap.size = w.heap.size + 4
  q2 : bookAt W3 w.heap.size t u0 u1 fl
  q3 : bookAt W3 (w.heap.size + 1) 0 (.slice none 0 0) (.slice none 0 0) false
  q4 : W3.heap[w.heap.size + 1 + 1]? = some (.cells #[.int .i64 1, .int .i64 a] 29 (0, 0))
  q5 : W3.heap[w.heap.size + 1 + 1 + 1]? = some (.cells #[.int .i64 0, .int .i64 b] 29 (0, 0))
def w4of (w : World) (t : Int) (u0 u1 : Value) (fl : Bool) (a b : Int) : World := (((w.alloc (.cells #[.int .i64 t, u0, u1, .bool fl] 24)).alloc (.cells #[.int .i64 0, .slice none 0 0, .slice none 0 0, .bool false] 24)).alloc (.cells #[.int .i64 1, .int .i64 a] 29)).alloc (.cells #[.int .i64 0, .int .i64 b] 29)
theorem lays4_of (w : World) (t : Int) (u0 u1 : Value) (fl : Bool) (a b : Int) : lays4 w (w4of w t u0 u1 fl a b) t u0 u1 fl a b := by
  unfold w4of
  have s1 : (w.alloc (.cells #[.int .i64 t, u0, u1, .bool fl] 24)).heap.size = w.heap.size + 1 := by simp
  have e0 := heap_alloc_new w (.cells #[.int .i64 t, u0, u1, .bool fl] 24)
  have e1 := heap_alloc_new (w.alloc (.cells #[.int .i64 t, u0, u1, .bool fl] 24)) (.cells #[.int .i64 0, .slice none 0 0, .slice none 0 0, .bool false] 24)
  rw [s1] at e1
  generalize hA : w.alloc (.cells #[.int .i64 t, u0, u1, .bool fl] 24) = A at *
  have s2 : (A.alloc (.cells #[.int .i64 0, .slice none 0 0, .slice none 0 0, .bool false] 24)).heap.size = w.heap.size + 1 + 1 := by simp [s1]
  have e2 := heap_alloc_new (A.alloc (.cells #[.int .i64 0, .slice none 0 0, .slice none 0 0, .bool false] 24)) (.cells #[.int .i64 1, .int .i64 a] 29)
  rw [s2] at e2
  have bA : Below w.heap.size w A := by rw [← hA]; exact below_alloc (Below.refl _ _) _
  have bB : Below A.heap.size A (A.alloc (.cells #[.int .i64 0, .slice none 0 0, .slice none 0 0, .bool false] 24)) := below_alloc (Below.refl _ _) _
  generalize A.alloc (.cells #[.int .i64 0, .slice none 0 0, .slice none 0 0, .bool false] 24) = B at *
  have s3 : (B.alloc (.cells #[.int .i64 1, .int .i64 a] 29)).heap.size = w.heap.size + 1 + 1 + 1 := by simp [s2]
  have e3 := heap_alloc_new (B.alloc (.cells #[.int .i64 1, .int .i64 a] 29)) (.cells #[.int .i64 0, .int .i64 b] 29)
  rw [s3] at e3
  have bC : Below B.heap.size B (B.alloc (.cells #[.int .i64 1, .int .i64 a] 29)) := below_alloc (Below.refl _ _) _
  generalize B.alloc (.cells #[.int .i64 1, .int .i64 a] 29) = C at *
  have bD : Below C.heap.size C (C.alloc (.cells #[.int .i64 0, .int .i64 b] 29)) := below_alloc (Below.refl _ _) _
  have s4 : (C.alloc (.cells #[.int .i64 0, .int .i64 b] 29)).heap.size = w.heap.size + 4 := by simp [s3]
  generalize C.alloc (.cells #[.int .i64 0, .int .i64 b] 29) = D at *
  exact ⟨below_step (below_step (below_step bA bB) bC) bD, s4, (bD.block _ (by omega)).trans ((bC.block _ (by omega)).trans ((bB.block _ (by omega)).trans e0)), (bD.block _ (by omega)).trans ((bC.block _ (by omega)).trans e1), (bD.block _ (by omega)).trans e2, e3⟩
theorem lays4.below {w W3 W : World} {t : Int} {u0 u1 : Value} {fl : Bool} {a b : Int} (h : lays4 w W3 t u0 u1 fl a b) (hb : Below W3.heap.size W3 W) :
    bookAt W w.heap.size t u0 u1 fl ∧ bookAt W (w.heap.size + 1) 0 (.slice none 0 0) (.slice none 0 0) false ∧ W.heap[w.heap.size + 1 + 1]? = some (.cells #[.int .i64 1, .int .i64 a] 29 (0, 0)) ∧ Below w.heap.size w W ∧ w.heap.size + 4 ≤ W.heap.size :=
  ⟨h.q2.below hb h.q2.lt, h.q3.below hb h.q3.lt, (hb.block _ (by have := h.q1; omega)).trans h.q4, below_step h.q0 hb, by have := hb.size; have := h.q1; omega⟩

set_option maxHeartbeats 4000000 in
set_option maxRecDepth 100000 in
theorem blame_bad (t : Int) (fl : Bool) (A0 : Option Addr) (c0 : Nat) (l0 : List S38) (A1 : Option Addr) (c1 : Nat) (l1 : List S38) (a b c : Int) (w : World)
    (h0 : Kd.C k38 w A0 l0.length l0) (h1 : Kd.C k38 w A1 l1.length l1) (hl0 : l0.length ≤ 6000000000000) (hl1 : l1.length ≤ 6000000000000) (hT : Tab w) (e : Int) (he : knownP t l0 l1 fl [⟨1, a⟩, ⟨0, b⟩] = e) (hne : e ≠ 0) :
    Calls Tryd.prog 30 #[.agg #[.int .i64 t, .slice A0 l0.length c0, .slice A1 l1.length c1, .bool fl], .int .i64 a, .int .i64 b, .int .i64 c] w fun e_ w' => e_ = .returned (.tuple #[.agg #[.int .i64 0, .slice none 0 0, .slice none 0 0, .bool false], .bool false, .int .i64 e]) ∧ Below w.heap.size w w' := by
  have hl3 := lays4_of w t (.slice A0 l0.length c0) (.slice A1 l1.length c1) fl a b
  have hba : Below w.heap.size w ((w4of w t (.slice A0 l0.length c0) (.slice A1 l1.length c1) fl a b).alloc (.cells #[.int .i64 1, .int .i64 a, .int .i64 0, .int .i64 b] 29)) := below_alloc hl3.q0 _
  have hkn := known_any t fl A0 c0 l0 A1 c1 l1 (some ⟨(w4of w t (.slice A0 l0.length c0) (.slice A1 l1.length c1) fl a b).heap.size, 0, none⟩) 2 [⟨1, a⟩, ⟨0, b⟩] ((w4of w t (.slice A0 l0.length c0) (.slice A1 l1.length c1) fl a b).alloc (.cells #[.int .i64 1, .int .i64 a, .int .i64 0, .int .i64 b] 29)) (Kd.C_below h0 hba) (Kd.C_below h1 hba) (C_two (w4of w t (.slice A0 l0.length c0) (.slice A1 l1.length c1) fl a b) 1 a 0 b) (by simp) hl0 hl1 (hT.below hba)
  rw [he] at hkn
  have H0 := Aside0.mk h0
  have H1 := Aside0.mk h1
  have HT := Aside0.mk hT
  have HL0 := Aside0.mk (And.intro hl0 hl1)
  obtain ⟨W3, hW3⟩ : ∃ W3, (w4of w t (.slice A0 l0.length c0) (.slice A1 l1.length c1) fl a b) = W3 := ⟨_, rfl⟩
  rw [hW3] at hl3 hba hkn
  unfold w4of at hW3
  have HW3 := Aside0.mk hW3
  have HL := Aside0.mk hl3
  have HKN := Aside0.mk hkn
  have ha := below_alloc (Below.refl W3.heap.size W3) (.cells #[.int .i64 1, .int .i64 a, .int .i64 0, .int .i64 b] 29)
  have HBA := Aside0.mk ha
  clear hba hkn h0 h1 he hl3 hT hl0 hl1 ha hW3
  have hu22 := Tryd.underlying22
  have hu29 := Tryd.underlying29
  have hu24 := Tryd.underlying24
  have hu38 := Tryd.underlying38
  have hu26 := Tryd.underlying26
  have hz0 := HL.out.q2.c0
  have hz1 := HL.out.q2.c1
  have hz2 := HL.out.q2.c2
  have hz3 := HL.out.q2.c3
  have hy0 : W3.cell? ⟨w.heap.size + 1 + 1, 0, none⟩ = some (.int .i64 1) := (blk_cell HL.out.q4 0).trans rfl
  have hy1 : W3.cell? ⟨w.heap.size + 1 + 1, 1, none⟩ = some (.int .i64 a) := (blk_cell HL.out.q4 1).trans rfl
  have hy2 : W3.cell? ⟨w.heap.size + 1 + 1 + 1, 0, none⟩ = some (.int .i64 0) := (blk_cell HL.out.q5 0).trans rfl
  have hy3 : W3.cell? ⟨w.heap.size + 1 + 1 + 1, 1, none⟩ = some (.int .i64 b) := (blk_cell HL.out.q5 1).trans rfl
  have hn1 : (e != 0) = true := bne_iff_ne.2 hne
  clear hne
  go_enter Tryd.func30, Tryd.ntmps30
  go_upto_region 2 with (fail)
  rw [HW3.out]
  clear HW3
  go_wp2_with (go_at_call 54; go_must (refine HKN.out.mono ?_; rintro e_ W4 ⟨rfl, hB4⟩; have HF := Aside0.mk (HL.out.below (below_step HBA.out hB4)); clear hB4 HL HKN HBA hz0 hz1 hz2 hz3 hy0 hy1 hy2 hy3; have hc0 : W4.cell? ⟨w.heap.size + 1, 0, none⟩ = some (.int .i64 0) := HF.out.2.1.c0; have hc1 : W4.cell? ⟨w.heap.size + 1, 1, none⟩ = some (.slice none 0 0) := HF.out.2.1.c1; have hc2 : W4.cell? ⟨w.heap.size + 1, 2, none⟩ = some (.slice none 0 0) := HF.out.2.1.c2; have hc3 : W4.cell? ⟨w.heap.size + 1, 3, none⟩ = some (.bool false) := HF.out.2.1.c3; have hf0 : W4.frozen? ⟨w.heap.size + 1, 0, none⟩ = false := frozen_of_row _ _ _ _ _ HF.out.2.1; have hf1 : W4.frozen? ⟨w.heap.size + 1, 1, none⟩ = false := frozen_of_row _ _ _ _ _ HF.out.2.1; have hf2 : W4.frozen? ⟨w.heap.size + 1, 2, none⟩ = false := frozen_of_row _ _ _ _ _ HF.out.2.1; have hf3 : W4.frozen? ⟨w.heap.size + 1, 3, none⟩ = false := frozen_of_row _ _ _ _ _ HF.out.2.1))
  refine bodyPost_ret (results_ctt rfl _ _ (w.heap.size + 1) 24 #[.int .i64 0, .slice none 0 0, .slice none 0 0, .bool false] (0, 0) _ rfl (by refine blk_put (cs := #[.int .i64 0, .slice none 0 0, .slice none 0 0, .bool false]) ?_ 3 _ rfl; refine blk_put (cs := #[.int .i64 0, .slice none 0 0, .slice none 0 0, .bool false]) ?_ 2 _ rfl; refine blk_put (cs := #[.int .i64 0, .slice none 0 0, .slice none 0 0, .bool false]) ?_ 1 _ rfl; refine blk_put (cs := #[.int .i64 0, .slice none 0 0, .slice none 0 0, .bool false]) ?_ 0 _ rfl; exact HF.out.2.1) Tryd.underlying24 rfl (by kernel_rfl)) rfl ?_
  exact ⟨rfl, (((HF.out.2.2.2.1.setCell (by simp) _).setCell (by simp) _).setCell (by simp) _).setCell (by simp) _⟩

set_option maxHeartbeats 4000000 in
set_option maxRecDepth 100000 in
theorem blame_arg1 (t : Int) (fl : Bool) (A0 : Option Addr) (c0 : Nat) (l0 : List S38) (A1 : Option Addr) (c1 : Nat) (l1 : List S38) (a : Int) (b : Nat) (c : Int) (w : World)
    (h0 : Kd.C k38 w A0 l0.length l0) (h1 : Kd.C k38 w A1 l1.length l1) (hl0 : l0.length ≤ 6000000000000) (hl1 : l1.length ≤ 6000000000000) (hT : Tab w) (he : knownP t l0 l1 fl [⟨1, a⟩, ⟨0, (b : Int)⟩] = 0) (hb : b < l0.length) (hc : c < 1) :
    Calls Tryd.prog 30 #[.agg #[.int .i64 t, .slice A0 l0.length c0, .slice A1 l1.length c1, .bool fl], .int .i64 a, .int .i64 b, .int .i64 c] w fun e_ w' => e_ = .returned (.tuple #[.agg #[.int .i64 0, .slice none 0 0, .slice none 0 0, .bool false], .bool false, .int .i64 3]) ∧ Below w.heap.size w w' := by
  have hl3 := lays4_of w t (.slice A0 l0.length c0) (.slice A1 l1.length c1) fl a b
  have hba : Below w.heap.size w ((w4of w t (.slice A0 l0.length c0) (.slice A1 l1.length c1) fl a b).alloc (.cells #[.int .i64 1, .int .i64 a, .int .i64 0, .int .i64 b] 29)) := below_alloc hl3.q0 _
  have hkn := known_any t fl A0 c0 l0 A1 c1 l1 (some ⟨(w4of w t (.slice A0 l0.length c0) (.slice A1 l1.length c1) fl a b).heap.size, 0, none⟩) 2 [⟨1, a⟩, ⟨0, b⟩] ((w4of w t (.slice A0 l0.length c0) (.slice A1 l1.length c1) fl a b).alloc (.cells #[.int .i64 1, .int .i64 a, .int .i64 0, .int .i64 b] 29)) (Kd.C_below h0 hba) (Kd.C_below h1 hba) (C_two (w4of w t (.slice A0 l0.length c0) (.slice A1 l1.length c1) fl a b) 1 a 0 b) (by simp) hl0 hl1 (hT.below hba)
  rw [he] at hkn
  have H0 := Aside0.mk h0
  have H1 := Aside0.mk h1
  have HT := Aside0.mk hT
  have HL0 := Aside0.mk (And.intro hl0 hl1)
  obtain ⟨W3, hW3⟩ : ∃ W3, (w4of w t (.slice A0 l0.length c0) (.slice A1 l1.length c1) fl a b) = W3 := ⟨_, rfl⟩
  rw [hW3] at hl3 hba hkn
  unfold w4of at hW3
  have HW3 := Aside0.mk hW3
  have HL := Aside0.mk hl3
  have HKN := Aside0.mk hkn
  have ha := below_alloc (Below.refl W3.heap.size W3) (.cells #[.int .i64 1, .int .i64 a, .int .i64 0, .int .i64 b] 29)
  have HBA := Aside0.mk ha
  clear hba hkn h0 h1 he hl3 hT hl0 hl1 ha hW3
  have hu22 := Tryd.underlying22
  have hu29 := Tryd.underlying29
  have hu24 := Tryd.underlying24
  have hu38 := Tryd.underlying38
  have hu26 := Tryd.underlying26
  have hz0 := HL.out.q2.c0
  have hz1 := HL.out.q2.c1
  have hz2 := HL.out.q2.c2
  have hz3 := HL.out.q2.c3
  have hy0 : W3.cell? ⟨w.heap.size + 1 + 1, 0, none⟩ = some (.int .i64 1) := (blk_cell HL.out.q4 0).trans rfl
  have hy1 : W3.cell? ⟨w.heap.size + 1 + 1, 1, none⟩ = some (.int .i64 a) := (blk_cell HL.out.q4 1).trans rfl
  have hy2 : W3.cell? ⟨w.heap.size + 1 + 1 + 1, 0, none⟩ = some (.int .i64 0) := (blk_cell HL.out.q5 0).trans rfl
  have hy3 : W3.cell? ⟨w.heap.size + 1 + 1 + 1, 1, none⟩ = some (.int .i64 b) := (blk_cell HL.out.q5 1).trans rfl
  obtain ⟨ad, ea, hx0, hx1, hx2⟩ := at_T38 H0.out (b : Int) (by omega) (by omega)
  subst ea
  rw [Int.toNat_natCast] at hx0 hx1 hx2
  obtain ⟨⟨sa, s1, s2⟩, hs⟩ : ∃ s, rd_T38 l0 (b : Int) = s := ⟨_, rfl⟩
  rw [hs] at hx0 hx1 hx2
  dsimp only at *
  have HX := Aside0.mk (And.intro hx0 (And.intro hx1 hx2))
  have HBI := Aside0.mk hb
  clear hx0 hx1 hx2 hs
  have d1 : decide (c < 1) = true := decide_eq_true hc
  clear hc
  go_enter Tryd.func30, Tryd.ntmps30
  go_upto_region 2 with (fail)
  rw [HW3.out]
  clear HW3
  go_upto_region 5 with (go_at_call 54; go_must (refine HKN.out.mono ?_; rintro e_ W4 ⟨rfl, hB4⟩; have HF := Aside0.mk (HL.out.below (below_step HBA.out hB4)); clear hB4 HL HKN HBA hz0 hz1 hz2 hz3 hy0 hy1 hy2 hy3))
  have hz1 := HF.out.1.c1
  have hx0 := (HF.out.2.2.2.1.cell (World.block_lt_of_cell? w _ HX.out.1)).trans HX.out.1
  have hx1 := (HF.out.2.2.2.1.cell (World.block_lt_of_cell? w _ HX.out.2.1)).trans HX.out.2.1
  have hx2 := (HF.out.2.2.2.1.cell (World.block_lt_of_cell? w _ HX.out.2.2)).trans HX.out.2.2
  go_upto_region 6 with (fail)
  obtain ⟨W5, hW5⟩ : ∃ W5, W5 = W4.alloc (.cells #[.int .i64 sa, .int .i64 s1, .int .i64 s2] 38) := ⟨_, rfl⟩
  rw [← hW5]
  have hb5 : Below W4.heap.size W4 W5 := by rw [hW5]; exact below_alloc (Below.refl _ _) _
  have hs5 : W5.heap.size = W4.heap.size + 1 := by rw [hW5]; simp
  have hr14 : W5.heap[W4.heap.size]? = some (.cells #[.int .i64 sa, .int .i64 s1, .int .i64 s2] 38 (0, 0)) := by rw [hW5]; exact heap_alloc_new W4 _
  have HM := Aside0.mk (show bookAt W5 w.heap.size t _ _ fl ∧ bookAt W5 (w.heap.size + 1) 0 (.slice none 0 0) (.slice none 0 0) false ∧ W5.heap[w.heap.size + 1 + 1]? = some (.cells #[.int .i64 1, .int .i64 a] 29 (0, 0)) ∧ Below w.heap.size w W5 ∧ w.heap.size + 4 ≤ W4.heap.size ∧ W5.heap.size = W4.heap.size + 1 ∧ W5.heap[W4.heap.size]? = some (.cells #[.int .i64 sa, .int .i64 s1, .int .i64 s2] 38 (0, 0)) from
    ⟨HF.out.1.below hb5 HF.out.1.lt, HF.out.2.1.below hb5 HF.out.2.1.lt, (hb5.block _ (by have := HF.out.2.2.2.2; omega)).trans HF.out.2.2.1, below_step HF.out.2.2.2.1 hb5, HF.out.2.2.2.2, hs5, hr14⟩)
  have hm1 : W5.cell? ⟨W4.heap.size, 1, none⟩ = some (.int .i64 s1) := (blk_cell hr14 1).trans rfl
  clear hW5 hb5 hs5 hr14 HF hz1 hx0 hx1 hx2
  have hc0 : W5.cell? ⟨w.heap.size + 1, 0, none⟩ = some (.int .i64 0) := HM.out.2.1.c0
  have hc1 : W5.cell? ⟨w.heap.size + 1, 1, none⟩ = some (.slice none 0 0) := HM.out.2.1.c1
  have hc2 : W5.cell? ⟨w.heap.size + 1, 2, none⟩ = some (.slice none 0 0) := HM.out.2.1.c2
  have hc3 : W5.cell? ⟨w.heap.size + 1, 3, none⟩ = some (.bool false) := HM.out.2.1.c3
  have hf0 : W5.frozen? ⟨w.heap.size + 1, 0, none⟩ = false := frozen_of_row _ _ _ _ _ HM.out.2.1
  have hf1 : W5.frozen? ⟨w.heap.size + 1, 1, none⟩ = false := frozen_of_row _ _ _ _ _ HM.out.2.1
  have hf2 : W5.frozen? ⟨w.heap.size + 1, 2, none⟩ = false := frozen_of_row _ _ _ _ _ HM.out.2.1
  have hf3 : W5.frozen? ⟨w.heap.size + 1, 3, none⟩ = false := frozen_of_row _ _ _ _ _ HM.out.2.1
  go_wp2_with fail
  refine bodyPost_ret (results_ctt rfl _ _ (w.heap.size + 1) 24 #[.int .i64 0, .slice none 0 0, .slice none 0 0, .bool false] (0, 0) _ rfl (by refine blk_put (cs := #[.int .i64 0, .slice none 0 0, .slice none 0 0, .bool false]) ?_ 3 _ rfl; refine blk_put (cs := #[.int .i64 0, .slice none 0 0, .slice none 0 0, .bool false]) ?_ 2 _ rfl; refine blk_put (cs := #[.int .i64 0, .slice none 0 0, .slice none 0 0, .bool false]) ?_ 1 _ rfl; refine blk_put (cs := #[.int .i64 0, .slice none 0 0, .slice none 0 0, .bool false]) ?_ 0 _ rfl; exact HM.out.2.1) Tryd.underlying24 rfl (by kernel_rfl)) rfl ?_
  exact ⟨rfl, (((HM.out.2.2.2.1.setCell (by simp) _).setCell (by simp) _).setCell (by simp) _).setCell (by simp) _⟩

set_option maxHeartbeats 4000000 in
set_option maxRecDepth 100000 in
theorem blame_arg2 (t : Int) (fl : Bool) (A0 : Option Addr) (c0 : Nat) (l0 : List S38) (A1 : Option Addr) (c1 : Nat) (l1 : List S38) (a : Int) (b : Nat) (c : Int) (w : World)
    (h0 : Kd.C k38 w A0 l0.length l0) (h1 : Kd.C k38 w A1 l1.length l1) (hl0 : l0.length ≤ 6000000000000) (hl1 : l1.length ≤ 6000000000000) (hT : Tab w) (he : knownP t l0 l1 fl [⟨1, a⟩, ⟨0, (b : Int)⟩] = 0) (hb : b < l0.length) (hc : ¬ c < 1) (hc2 : (rd_T38 l0 (b : Int)).f1 < c) :
    Calls Tryd.prog 30 #[.agg #[.int .i64 t, .slice A0 l0.length c0, .slice A1 l1.length c1, .bool fl], .int .i64 a, .int .i64 b, .int .i64 c] w fun e_ w' => e_ = .returned (.tuple #[.agg #[.int .i64 0, .slice none 0 0, .slice none 0 0, .bool false], .bool false, .int .i64 3]) ∧ Below w.heap.size w w' := by
  have hl3 := lays4_of w t (.slice A0 l0.length c0) (.slice A1 l1.length c1) fl a b
  have hba : Below w.heap.size w ((w4of w t (.slice A0 l0.length c0) (.slice A1 l1.length c1) fl a b).alloc (.cells #[.int .i64 1, .int .i64 a, .int .i64 0, .int .i64 b] 29)) := below_alloc hl3.q0 _
  have hkn := known_any t fl A0 c0 l0 A1 c1 l1 (some ⟨(w4of w t (.slice A0 l0.length c0) (.slice A1 l1.length c1) fl a b).heap.size, 0, none⟩) 2 [⟨1, a⟩, ⟨0, b⟩] ((w4of w t (.slice A0 l0.length c0) (.slice A1 l1.length c1) fl a b).alloc (.cells #[.int .i64 1, .int .i64 a, .int .i64 0, .int .i64 b] 29)) (Kd.C_below h0 hba) (Kd.C_below h1 hba) (C_two (w4of w t (.slice A0 l0.length c0) (.slice A1 l1.length c1) fl a b) 1 a 0 b) (by simp) hl0 hl1 (hT.below hba)
  rw [he] at hkn
  have H0 := Aside0.mk h0
  have H1 := Aside0.mk h1
  have HT := Aside0.mk hT
  have HL0 := Aside0.mk (And.intro hl0 hl1)
  obtain ⟨W3, hW3⟩ : ∃ W3, (w4of w t (.slice A0 l0.length c0) (.slice A1 l1.length c1) fl a b) = W3 := ⟨_, rfl⟩
  rw [hW3] at hl3 hba hkn
  unfold w4of at hW3
  have HW3 := Aside0.mk hW3
  have HL := Aside0.mk hl3
  have HKN := Aside0.mk hkn
  have ha := below_alloc (Below.refl W3.heap.size W3) (.cells #[.int .i64 1, .int .i64 a, .int .i64 0, .int .i64 b] 29)
  have HBA := Aside0.mk ha
  clear hba hkn h0 h1 he hl3 hT hl0 hl1 ha hW3
  have hu22 := Tryd.underlying22
  have hu29 := Tryd.underlying29
  have hu24 := Tryd.underlying24
  have hu38 := Tryd.underlying38
  have hu26 := Tryd.underlying26
  have hz0 := HL.out.q2.c0
  have hz1 := HL.out.q2.c1
  have hz2 := HL.out.q2.c2
  have hz3 := HL.out.q2.c3
  have hy0 : W3.cell? ⟨w.heap.size + 1 + 1, 0, none⟩ = some (.int .i64 1) := (blk_cell HL.out.q4 0).trans rfl
  have hy1 : W3.cell? ⟨w.heap.size + 1 + 1, 1, none⟩ = some (.int .i64 a) := (blk_cell HL.out.q4 1).trans rfl
  have hy2 : W3.cell? ⟨w.heap.size + 1 + 1 + 1, 0, none⟩ = some (.int .i64 0) := (blk_cell HL.out.q5 0).trans rfl
  have hy3 : W3.cell? ⟨w.heap.size + 1 + 1 + 1, 1, none⟩ = some (.int .i64 b) := (blk_cell HL.out.q5 1).trans rfl
  obtain ⟨ad, ea, hx0, hx1, hx2⟩ := at_T38 H0.out (b : Int) (by omega) (by omega)
  subst ea
  rw [Int.toNat_natCast] at hx0 hx1 hx2
  obtain ⟨⟨sa, s1, s2⟩, hs⟩ : ∃ s, rd_T38 l0 (b : Int) = s := ⟨_, rfl⟩
  rw [hs] at hx0 hx1 hx2
  rw [hs] at hc2
  dsimp only at *
  have HX := Aside0.mk (And.intro hx0 (And.intro hx1 hx2))
  have HBI := Aside0.mk hb
  clear hx0 hx1 hx2 hs
  have d1 : decide (c < 1) = false := decide_eq_false hc
  clear hc
  have d2 : decide (s1 < c) = true := decide_eq_true hc2
  clear hc2
  go_enter Tryd.func30, Tryd.ntmps30
  go_upto_region 2 with (fail)
  rw [HW3.out]
  clear HW3
  go_upto_region 5 with (go_at_call 54; go_must (refine HKN.out.mono ?_; rintro e_ W4 ⟨rfl, hB4⟩; have HF := Aside0.mk (HL.out.below (below_step HBA.out hB4)); clear hB4 HL HKN HBA hz0 hz1 hz2 hz3 hy0 hy1 hy2 hy3))
  have hz1 := HF.out.1.c1
  have hx0 := (HF.out.2.2.2.1.cell (World.block_lt_of_cell? w _ HX.out.1)).trans HX.out.1
  have hx1 := (HF.out.2.2.2.1.cell (World.block_lt_of_cell? w _ HX.out.2.1)).trans HX.out.2.1
  have hx2 := (HF.out.2.2.2.1.cell (World.block_lt_of_cell? w _ HX.out.2.2)).trans HX.out.2.2
  go_upto_region 6 with (fail)
  obtain ⟨W5, hW5⟩ : ∃ W5, W5 = W4.alloc (.cells #[.int .i64 sa, .int .i64 s1, .int .i64 s2] 38) := ⟨_, rfl⟩
  rw [← hW5]
  have hb5 : Below W4.heap.size W4 W5 := by rw [hW5]; exact below_alloc (Below.refl _ _) _
  have hs5 : W5.heap.size = W4.heap.size + 1 := by rw [hW5]; simp
  have hr14 : W5.heap[W4.heap.size]? = some (.cells #[.int .i64 sa, .int .i64 s1, .int .i64 s2] 38 (0, 0)) := by rw [hW5]; exact heap_alloc_new W4 _
  have HM := Aside0.mk (show bookAt W5 w.heap.size t _ _ fl ∧ bookAt W5 (w.heap.size + 1) 0 (.slice none 0 0) (.slice none 0 0) false ∧ W5.heap[w.heap.size + 1 + 1]? = some (.cells #[.int .i64 1, .int .i64 a] 29 (0, 0)) ∧ Below w.heap.size w W5 ∧ w.heap.size + 4 ≤ W4.heap.size ∧ W5.heap.size = W4.heap.size + 1 ∧ W5.heap[W4.heap.size]? = some (.cells #[.int .i64 sa, .int .i64 s1, .int .i64 s2] 38 (0, 0)) from
    ⟨HF.out.1.below hb5 HF.out.1.lt, HF.out.2.1.below hb5 HF.out.2.1.lt, (hb5.block _ (by have := HF.out.2.2.2.2; omega)).trans HF.out.2.2.1, below_step HF.out.2.2.2.1 hb5, HF.out.2.2.2.2, hs5, hr14⟩)
  have hm1 : W5.cell? ⟨W4.heap.size, 1, none⟩ = some (.int .i64 s1) := (blk_cell hr14 1).trans rfl
  clear hW5 hb5 hs5 hr14 HF hz1 hx0 hx1 hx2
  have hc0 : W5.cell? ⟨w.heap.size + 1, 0, none⟩ = some (.int .i64 0) := HM.out.2.1.c0
  have hc1 : W5.cell? ⟨w.heap.size + 1, 1, none⟩ = some (.slice none 0 0) := HM.out.2.1.c1
  have hc2 : W5.cell? ⟨w.heap.size + 1, 2, none⟩ = some (.slice none 0 0) := HM.out.2.1.c2
  have hc3 : W5.cell? ⟨w.heap.size + 1, 3, none⟩ = some (.bool false) := HM.out.2.1.c3
  have hf0 : W5.frozen? ⟨w.heap.size + 1, 0, none⟩ = false := frozen_of_row _ _ _ _ _ HM.out.2.1
  have hf1 : W5.frozen? ⟨w.heap.size + 1, 1, none⟩ = false := frozen_of_row _ _ _ _ _ HM.out.2.1
  have hf2 : W5.frozen? ⟨w.heap.size + 1, 2, none⟩ = false := frozen_of_row _ _ _ _ _ HM.out.2.1
  have hf3 : W5.frozen? ⟨w.heap.size + 1, 3, none⟩ = false := frozen_of_row _ _ _ _ _ HM.out.2.1
  go_wp2_with fail
  refine bodyPost_ret (results_ctt rfl _ _ (w.heap.size + 1) 24 #[.int .i64 0, .slice none 0 0, .slice none 0 0, .bool false] (0, 0) _ rfl (by refine blk_put (cs := #[.int .i64 0, .slice none 0 0, .slice none 0 0, .bool false]) ?_ 3 _ rfl; refine blk_put (cs := #[.int .i64 0, .slice none 0 0, .slice none 0 0, .bool false]) ?_ 2 _ rfl; refine blk_put (cs := #[.int .i64 0, .slice none 0 0, .slice none 0 0, .bool false]) ?_ 1 _ rfl; refine blk_put (cs := #[.int .i64 0, .slice none 0 0, .slice none 0 0, .bool false]) ?_ 0 _ rfl; exact HM.out.2.1) Tryd.underlying24 rfl (by kernel_rfl)) rfl ?_
  exact ⟨rfl, (((HM.out.2.2.2.1.setCell (by simp) _).setCell (by simp) _).setCell (by simp) _).setCell (by simp) _⟩

set_option maxHeartbeats 4000000 in
set_option maxRecDepth 100000 in
theorem blame_enderr (t : Int) (fl : Bool) (A0 : Option Addr) (c0 : Nat) (l0 : List S38) (A1 : Option Addr) (c1 : Nat) (l1 : List S38) (a : Int) (b : Nat) (c : Int) (w : World)
    (h0 : Kd.C k38 w A0 l0.length l0) (h1 : Kd.C k38 w A1 l1.length l1) (hl0 : l0.length ≤ 6000000000000) (hl1 : l1.length ≤ 6000000000000) (hT : Tab w) (he : knownP t l0 l1 fl [⟨1, a⟩, ⟨0, (b : Int)⟩] = 0) (hb : b < l0.length) (hc : ¬ c < 1) (hc2 : ¬ (rd_T38 l0 (b : Int)).f1 < c) (r1 : Int) (r2 r3 : List S38) (r4 : Bool) (r5 : Int) (hend : endP t l0 l1 fl 1 a (fun s => ⟨2, s.f1, s.f2⟩) (fun _ => false) = (r1, r2, r3, r4, r5)) (hr5 : r5 ≠ 0) :
    Calls Tryd.prog 30 #[.agg #[.int .i64 t, .slice A0 l0.length c0, .slice A1 l1.length c1, .bool fl], .int .i64 a, .int .i64 b, .int .i64 c] w fun e_ w' => e_ = .returned (.tuple #[.agg #[.int .i64 0, .slice none 0 0, .slice none 0 0, .bool false], .bool false, .int .i64 r5]) ∧ Below w.heap.size w w' := by
  have hl3 := lays4_of w t (.slice A0 l0.length c0) (.slice A1 l1.length c1) fl a b
  have hba : Below w.heap.size w ((w4of w t (.slice A0 l0.length c0) (.slice A1 l1.length c1) fl a b).alloc (.cells #[.int .i64 1, .int .i64 a, .int .i64 0, .int .i64 b] 29)) := below_alloc hl3.q0 _
  have hkn := known_any t fl A0 c0 l0 A1 c1 l1 (some ⟨(w4of w t (.slice A0 l0.length c0) (.slice A1 l1.length c1) fl a b).heap.size, 0, none⟩) 2 [⟨1, a⟩, ⟨0, b⟩] ((w4of w t (.slice A0 l0.length c0) (.slice A1 l1.length c1) fl a b).alloc (.cells #[.int .i64 1, .int .i64 a, .int .i64 0, .int .i64 b] 29)) (Kd.C_below h0 hba) (Kd.C_below h1 hba) (C_two (w4of w t (.slice A0 l0.length c0) (.slice A1 l1.length c1) fl a b) 1 a 0 b) (by simp) hl0 hl1 (hT.below hba)
  rw [he] at hkn
  have H0 := Aside0.mk h0
  have H1 := Aside0.mk h1
  have HT := Aside0.mk hT
  have HL0 := Aside0.mk (And.intro hl0 hl1)
  obtain ⟨W3, hW3⟩ : ∃ W3, (w4of w t (.slice A0 l0.length c0) (.slice A1 l1.length c1) fl a b) = W3 := ⟨_, rfl⟩
  rw [hW3] at hl3 hba hkn
  unfold w4of at hW3
  have HW3 := Aside0.mk hW3
  have HL := Aside0.mk hl3
  have HKN := Aside0.mk hkn
  have ha := below_alloc (Below.refl W3.heap.size W3) (.cells #[.int .i64 1, .int .i64 a, .int .i64 0, .int .i64 b] 29)
  have HBA := Aside0.mk ha
  clear hba hkn h0 h1 he hl3 hT hl0 hl1 ha hW3
  have hu22 := Tryd.underlying22
  have hu29 := Tryd.underlying29
  have hu24 := Tryd.underlying24
  have hu38 := Tryd.underlying38
  have hu26 := Tryd.underlying26
  have hz0 := HL.out.q2.c0
  have hz1 := HL.out.q2.c1
  have hz2 := HL.out.q2.c2
  have hz3 := HL.out.q2.c3
  have hy0 : W3.cell? ⟨w.heap.size + 1 + 1, 0, none⟩ = some (.int .i64 1) := (blk_cell HL.out.q4 0).trans rfl
  have hy1 : W3.cell? ⟨w.heap.size + 1 + 1, 1, none⟩ = some (.int .i64 a) := (blk_cell HL.out.q4 1).trans rfl
  have hy2 : W3.cell? ⟨w.heap.size + 1 + 1 + 1, 0, none⟩ = some (.int .i64 0) := (blk_cell HL.out.q5 0).trans rfl
  have hy3 : W3.cell? ⟨w.heap.size + 1 + 1 + 1, 1, none⟩ = some (.int .i64 b) := (blk_cell HL.out.q5 1).trans rfl
  obtain ⟨ad, ea, hx0, hx1, hx2⟩ := at_T38 H0.out (b : Int) (by omega) (by omega)
  subst ea
  rw [Int.toNat_natCast] at hx0 hx1 hx2
  obtain ⟨⟨sa, s1, s2⟩, hs⟩ : ∃ s, rd_T38 l0 (b : Int) = s := ⟨_, rfl⟩
  rw [hs] at hx0 hx1 hx2
  rw [hs] at hc2
  dsimp only at *
  have HX := Aside0.mk (And.intro hx0 (And.intro hx1 hx2))
  have HBI := Aside0.mk hb
  clear hx0 hx1 hx2 hs
  have d1 : decide (c < 1) = false := decide_eq_false hc
  clear hc
  have d2 : decide (s1 < c) = false := decide_eq_false hc2
  clear hc2
  go_enter Tryd.func30, Tryd.ntmps30
  go_upto_region 2 with (fail)
  rw [HW3.out]
  clear HW3
  go_upto_region 5 with (go_at_call 54; go_must (refine HKN.out.mono ?_; rintro e_ W4 ⟨rfl, hB4⟩; have HF := Aside0.mk (HL.out.below (below_step HBA.out hB4)); clear hB4 HL HKN HBA hz0 hz1 hz2 hz3 hy0 hy1 hy2 hy3))
  have hz1 := HF.out.1.c1
  have hx0 := (HF.out.2.2.2.1.cell (World.block_lt_of_cell? w _ HX.out.1)).trans HX.out.1
  have hx1 := (HF.out.2.2.2.1.cell (World.block_lt_of_cell? w _ HX.out.2.1)).trans HX.out.2.1
  have hx2 := (HF.out.2.2.2.1.cell (World.block_lt_of_cell? w _ HX.out.2.2)).trans HX.out.2.2
  go_upto_region 6 with (fail)
  obtain ⟨W5, hW5⟩ : ∃ W5, W5 = W4.alloc (.cells #[.int .i64 sa, .int .i64 s1, .int .i64 s2] 38) := ⟨_, rfl⟩
  rw [← hW5]
  have hb5 : Below W4.heap.size W4 W5 := by rw [hW5]; exact below_alloc (Below.refl _ _) _
  have hs5 : W5.heap.size = W4.heap.size + 1 := by rw [hW5]; simp
  have hr14 : W5.heap[W4.heap.size]? = some (.cells #[.int .i64 sa, .int .i64 s1, .int .i64 s2] 38 (0, 0)) := by rw [hW5]; exact heap_alloc_new W4 _
  have HM := Aside0.mk (show bookAt W5 w.heap.size t _ _ fl ∧ bookAt W5 (w.heap.size + 1) 0 (.slice none 0 0) (.slice none 0 0) false ∧ W5.heap[w.heap.size + 1 + 1]? = some (.cells #[.int .i64 1, .int .i64 a] 29 (0, 0)) ∧ Below w.heap.size w W5 ∧ w.heap.size + 4 ≤ W4.heap.size ∧ W5.heap.size = W4.heap.size + 1 ∧ W5.heap[W4.heap.size]? = some (.cells #[.int .i64 sa, .int .i64 s1, .int .i64 s2] 38 (0, 0)) from
    ⟨HF.out.1.below hb5 HF.out.1.lt, HF.out.2.1.below hb5 HF.out.2.1.lt, (hb5.block _ (by have := HF.out.2.2.2.2; omega)).trans HF.out.2.2.1, below_step HF.out.2.2.2.1 hb5, HF.out.2.2.2.2, hs5, hr14⟩)
  have hm1 : W5.cell? ⟨W4.heap.size, 1, none⟩ = some (.int .i64 s1) := (blk_cell hr14 1).trans rfl
  clear hW5 hb5 hs5 hr14 HF hz1 hx0 hx1 hx2
  go_upto_region 8 with (fail)
  clear hm1
  have hz0 := HM.out.1.c0
  have hz1 := HM.out.1.c1
  have hz2 := HM.out.1.c2
  have hz3 := HM.out.1.c3
  have hy0 : W5.cell? ⟨w.heap.size + 1 + 1, 0, none⟩ = some (.int .i64 1) := (blk_cell HM.out.2.2.1 0).trans rfl
  have hy1 : W5.cell? ⟨w.heap.size + 1 + 1, 1, none⟩ = some (.int .i64 a) := (blk_cell HM.out.2.2.1 1).trans rfl
  have hen := ended_any 59 #[] (enters_of Tryd.func59 (by kernel_rfl) rfl) (fun s => ⟨2, s.f1, s.f2⟩) (fun _ => false) t fl (some ad) c0 l0 A1 c1 l1 1 a r1 r2 r3 r4 r5 W5 (Kd.C_below H0.out HM.out.2.2.2.1) (Kd.C_below H1.out HM.out.2.2.2.1) HL0.out.1 HL0.out.2 (HT.out.below HM.out.2.2.2.1)
    (fun W gb gs off u0 u1 s g1 g2 g3 g4 g5 g6 g7 => do_hold W gb gs off t u0 u1 false s g3 g4 g5) hend
  have HEN := Aside0.mk hen
  clear hen hend
  go_upto_region 9 with (go_at_call 45; go_must (refine HEN.out.mono ?_; rintro e_ W6 ⟨v1, v2, rfl, hr1, hr2, hB6⟩; have HR1 := Aside0.mk (Kd.R_mono (Kd.R_bound hr1) (fun k hk => (⟨hk.1, hk.2.1⟩ : _ ∧ W5.heap.size ≤ k))); have HR2 := Aside0.mk (Kd.R_mono (Kd.R_bound hr2) (fun k hk => (⟨hk.1, hk.2.1⟩ : _ ∧ W5.heap.size ≤ k))); have HG := Aside0.mk (show bookAt W6 w.heap.size t _ _ fl ∧ bookAt W6 (w.heap.size + 1) 0 (.slice none 0 0) (.slice none 0 0) false ∧ Below w.heap.size w W6 ∧ W6.heap[W4.heap.size]? = some (.cells #[.int .i64 sa, .int .i64 s1, .int .i64 s2] 38 (0, 0)) from ⟨HM.out.1.below hB6 HM.out.1.lt, HM.out.2.1.below hB6 HM.out.2.1.lt, below_step HM.out.2.2.2.1 hB6, (hB6.block _ (by have := HM.out.2.2.2.2.2.1; omega)).trans HM.out.2.2.2.2.2.2⟩); clear hr1 hr2 hB6 HEN hz0 hz1 hz2 hz3 hy0 hy1; obtain ⟨B1, d1_, e1⟩ := Kd.R_slice HR1.out; subst e1; obtain ⟨B2, d2_, e2⟩ := Kd.R_slice HR2.out; subst e2; have hz0 := HG.out.1.c0; have hz1 := HG.out.1.c1; have hz2 := HG.out.1.c2; have hz3 := HG.out.1.c3; have hq0 : W6.frozen? ⟨w.heap.size, 0, none⟩ = false := frozen_of_row _ _ _ _ _ HG.out.1; have hq1 : W6.frozen? ⟨w.heap.size, 1, none⟩ = false := frozen_of_row _ _ _ _ _ HG.out.1; have hq2 : W6.frozen? ⟨w.heap.size, 2, none⟩ = false := frozen_of_row _ _ _ _ _ HG.out.1; have hq3 : W6.frozen? ⟨w.heap.size, 3, none⟩ = false := frozen_of_row _ _ _ _ _ HG.out.1))
  clear hz0 hz1 hz2 hz3 hq0 hq1 hq2 hq3
  obtain ⟨W7, hW7⟩ : ∃ W7, W7 = (((W6.setCell ⟨w.heap.size, 0, none⟩ (.int .i64 r1)).setCell ⟨w.heap.size, 1, none⟩ (.slice B1 r2.length d1_)).setCell ⟨w.heap.size, 2, none⟩ (.slice B2 r3.length d2_)).setCell ⟨w.heap.size, 3, none⟩ (.bool r4) := ⟨_, rfl⟩
  rw [← hW7]
  have hfar : ∀ k, k ≠ w.heap.size → W7.heap[k]? = W6.heap[k]? := fun k hk => by rw [hW7, Below.heap_setCell _ _ _ _ hk, Below.heap_setCell _ _ _ _ hk, Below.heap_setCell _ _ _ _ hk, Below.heap_setCell _ _ _ _ hk]
  have HN := Aside0.mk (show bookAt W7 w.heap.size r1 (.slice B1 r2.length d1_) (.slice B2 r3.length d2_) r4 ∧ bookAt W7 (w.heap.size + 1) 0 (.slice none 0 0) (.slice none 0 0) false ∧ Below w.heap.size w W7 ∧ W7.heap[W4.heap.size]? = some (.cells #[.int .i64 sa, .int .i64 s1, .int .i64 s2] 38 (0, 0)) from
    ⟨by rw [hW7]; refine blk_put (cs := #[.int .i64 r1, .slice B1 r2.length d1_, .slice B2 r3.length d2_, .bool fl]) ?_ 3 _ rfl; refine blk_put (cs := #[.int .i64 r1, .slice B1 r2.length d1_, .slice A1 l1.length c1, .bool fl]) ?_ 2 _ rfl; refine blk_put (cs := #[.int .i64 r1, .slice (some ad) l0.length c0, .slice A1 l1.length c1, .bool fl]) ?_ 1 _ rfl; refine blk_put (cs := #[.int .i64 t, .slice (some ad) l0.length c0, .slice A1 l1.length c1, .bool fl]) ?_ 0 _ rfl; exact HG.out.1,
     (hfar _ (by omega)).trans HG.out.2.1, by rw [hW7]; exact (((HG.out.2.2.1.setCell (Nat.le_refl _) _).setCell (Nat.le_refl _) _).setCell (Nat.le_refl _) _).setCell (Nat.le_refl _) _, (hfar _ (by have := HM.out.2.2.2.2.1; omega)).trans HG.out.2.2.2⟩)
  have hsz : w.heap.size + 4 ≤ W5.heap.size := by have := HM.out.2.2.2.2; omega
  have HS := Aside0.mk hsz
  have HQ1 := Aside0.mk (show Kd.R k38 38 W7 W5.heap.size (fun k => some k ≠ (Value.slice B2 r3.length d2_).ownBlock ∧ W5.heap.size ≤ k) (.slice B1 r2.length d1_) r2 from by
    rw [hW7]
    exact Kd.R_far (p := ⟨w.heap.size, 3, none⟩) (Kd.R_far (p := ⟨w.heap.size, 2, none⟩) (Kd.R_far (p := ⟨w.heap.size, 1, none⟩) (Kd.R_far (p := ⟨w.heap.size, 0, none⟩) HR1.out (fun k hk => by have := hk.2; simp; omega) _) (fun k hk => by have := hk.2; simp; omega) _) (fun k hk => by have := hk.2; simp; omega) _) (fun k hk => by have := hk.2; simp; omega) _)
  have HQ2 := Aside0.mk (show Kd.R k38 38 W7 W5.heap.size (fun k => some k ≠ (Value.slice B1 r2.length d1_).ownBlock ∧ W5.heap.size ≤ k) (.slice B2 r3.length d2_) r3 from by
    rw [hW7]
    exact Kd.R_far (p := ⟨w.heap.size, 3, none⟩) (Kd.R_far (p := ⟨w.heap.size, 2, none⟩) (Kd.R_far (p := ⟨w.heap.size, 1, none⟩) (Kd.R_far (p := ⟨w.heap.size, 0, none⟩) HR2.out (fun k hk => by have := hk.2; simp; omega) _) (fun k hk => by have := hk.2; simp; omega) _) (fun k hk => by have := hk.2; simp; omega) _) (fun k hk => by have := hk.2; simp; omega) _)
  clear hW7 hfar HG HR1 HR2 hsz HM
  have hr5b : (r5 != 0) = true := bne_iff_ne.2 hr5
  clear hr5
  have hc0 : W7.cell? ⟨w.heap.size + 1, 0, none⟩ = some (.int .i64 0) := HN.out.2.1.c0
  have hc1 : W7.cell? ⟨w.heap.size + 1, 1, none⟩ = some (.slice none 0 0) := HN.out.2.1.c1
  have hc2 : W7.cell? ⟨w.heap.size + 1, 2, none⟩ = some (.slice none 0 0) := HN.out.2.1.c2
  have hc3 : W7.cell? ⟨w.heap.size + 1, 3, none⟩ = some (.bool false) := HN.out.2.1.c3
  have hf0 : W7.frozen? ⟨w.heap.size + 1, 0, none⟩ = false := frozen_of_row _ _ _ _ _ HN.out.2.1
  have hf1 : W7.frozen? ⟨w.heap.size + 1, 1, none⟩ = false := frozen_of_row _ _ _ _ _ HN.out.2.1
  have hf2 : W7.frozen? ⟨w.heap.size + 1, 2, none⟩ = false := frozen_of_row _ _ _ _ _ HN.out.2.1
  have hf3 : W7.frozen? ⟨w.heap.size + 1, 3, none⟩ = false := frozen_of_row _ _ _ _ _ HN.out.2.1
  go_wp2_with fail
  refine bodyPost_ret (results_ctt rfl _ _ (w.heap.size + 1) 24 #[.int .i64 0, .slice none 0 0, .slice none 0 0, .bool false] (0, 0) _ rfl (by refine blk_put (cs := #[.int .i64 0, .slice none 0 0, .slice none 0 0, .bool false]) ?_ 3 _ rfl; refine blk_put (cs := #[.int .i64 0, .slice none 0 0, .slice none 0 0, .bool false]) ?_ 2 _ rfl; refine blk_put (cs := #[.int .i64 0, .slice none 0 0, .slice none 0 0, .bool false]) ?_ 1 _ rfl; refine blk_put (cs := #[.int .i64 0, .slice none 0 0, .slice none 0 0, .bool false]) ?_ 0 _ rfl; exact HN.out.2.1) Tryd.underlying24 rfl (by kernel_rfl)) rfl ?_
  exact ⟨rfl, (((HN.out.2.2.1.setCell (by simp) _).setCell (by simp) _).setCell (by simp) _).setCell (by simp) _⟩

set_option maxHeartbeats 4000000 in
set_option maxRecDepth 100000 in
theorem blame_other (t : Int) (fl : Bool) (A0 : Option Addr) (c0 : Nat) (l0 : List S38) (A1 : Option Addr) (c1 : Nat) (l1 : List S38) (a : Int) (b : Nat) (c : Int) (w : World)
    (h0 : Kd.C k38 w A0 l0.length l0) (h1 : Kd.C k38 w A1 l1.length l1) (hl0 : l0.length ≤ 6000000000000) (hl1 : l1.length ≤ 6000000000000) (hT : Tab w) (he : knownP t l0 l1 fl [⟨1, a⟩, ⟨0, (b : Int)⟩] = 0) (hb : b < l0.length) (hc : ¬ c < 1) (hc2 : ¬ (rd_T38 l0 (b : Int)).f1 < c) (r1 : Int) (r2 r3 : List S38) (r4 : Bool) (r5 : Int) (hend : endP t l0 l1 fl 1 a (fun s => ⟨2, s.f1, s.f2⟩) (fun _ => false) = (r1, r2, r3, r4, r5)) (hr5 : r5 = 0) (hst : (rd_T38 l0 (b : Int)).f0 ≠ 3) :
    Calls Tryd.prog 30 #[.agg #[.int .i64 t, .slice A0 l0.length c0, .slice A1 l1.length c1, .bool fl], .int .i64 a, .int .i64 b, .int .i64 c] w fun e_ w' => ∃ v1 v2 : Value, e_ = .returned (.tuple #[.agg #[.int .i64 r1, v1, v2, .bool r4], .bool false, .int .i64 0]) ∧ Kd.R k38 38 w' w.heap.size (fun k => some k ≠ v2.ownBlock) v1 r2 ∧ Kd.R k38 38 w' w.heap.size (fun k => some k ≠ v1.ownBlock) v2 r3 ∧ Below w.heap.size w w' := by
  have hl3 := lays4_of w t (.slice A0 l0.length c0) (.slice A1 l1.length c1) fl a b
  have hba : Below w.heap.size w ((w4of w t (.slice A0 l0.length c0) (.slice A1 l1.length c1) fl a b).alloc (.cells #[.int .i64 1, .int .i64 a, .int .i64 0, .int .i64 b] 29)) := below_alloc hl3.q0 _
  have hkn := known_any t fl A0 c0 l0 A1 c1 l1 (some ⟨(w4of w t (.slice A0 l0.length c0) (.slice A1 l1.length c1) fl a b).heap.size, 0, none⟩) 2 [⟨1, a⟩, ⟨0, b⟩] ((w4of w t (.slice A0 l0.length c0) (.slice A1 l1.length c1) fl a b).alloc (.cells #[.int .i64 1, .int .i64 a, .int .i64 0, .int .i64 b] 29)) (Kd.C_below h0 hba) (Kd.C_below h1 hba) (C_two (w4of w t (.slice A0 l0.length c0) (.slice A1 l1.length c1) fl a b) 1 a 0 b) (by simp) hl0 hl1 (hT.below hba)
  rw [he] at hkn
  have H0 := Aside0.mk h0
  have H1 := Aside0.mk h1
  have HT := Aside0.mk hT
  have HL0 := Aside0.mk (And.intro hl0 hl1)
  obtain ⟨W3, hW3⟩ : ∃ W3, (w4of w t (.slice A0 l0.length c0) (.slice A1 l1.length c1) fl a b) = W3 := ⟨_, rfl⟩
  rw [hW3] at hl3 hba hkn
  unfold w4of at hW3
  have HW3 := Aside0.mk hW3
  have HL := Aside0.mk hl3
  have HKN := Aside0.mk hkn
  have ha := below_alloc (Below.refl W3.heap.size W3) (.cells #[.int .i64 1, .int .i64 a, .int .i64 0, .int .i64 b] 29)
  have HBA := Aside0.mk ha
  clear hba hkn h0 h1 he hl3 hT hl0 hl1 ha hW3
  have hu22 := Tryd.underlying22
  have hu29 := Tryd.underlying29
  have hu24 := Tryd.underlying24
  have hu38 := Tryd.underlying38
  have hu26 := Tryd.underlying26
  have hz0 := HL.out.q2.c0
  have hz1 := HL.out.q2.c1
  have hz2 := HL.out.q2.c2
  have hz3 := HL.out.q2.c3
  have hy0 : W3.cell? ⟨w.heap.size + 1 + 1, 0, none⟩ = some (.int .i64 1) := (blk_cell HL.out.q4 0).trans rfl
  have hy1 : W3.cell? ⟨w.heap.size + 1 + 1, 1, none⟩ = some (.int .i64 a) := (blk_cell HL.out.q4 1).trans rfl
  have hy2 : W3.cell? ⟨w.heap.size + 1 + 1 + 1, 0, none⟩ = some (.int .i64 0) := (blk_cell HL.out.q5 0).trans rfl
  have hy3 : W3.cell? ⟨w.heap.size + 1 + 1 + 1, 1, none⟩ = some (.int .i64 b) := (blk_cell HL.out.q5 1).trans rfl
  obtain ⟨ad, ea, hx0, hx1, hx2⟩ := at_T38 H0.out (b : Int) (by omega) (by omega)
  subst ea
  rw [Int.toNat_natCast] at hx0 hx1 hx2
  obtain ⟨⟨sa, s1, s2⟩, hs⟩ : ∃ s, rd_T38 l0 (b : Int) = s := ⟨_, rfl⟩
  rw [hs] at hx0 hx1 hx2
  rw [hs] at hc2
  rw [hs] at hst
  dsimp only at *
  have HX := Aside0.mk (And.intro hx0 (And.intro hx1 hx2))
  have HBI := Aside0.mk hb
  clear hx0 hx1 hx2 hs
  have d1 : decide (c < 1) = false := decide_eq_false hc
  clear hc
  have d2 : decide (s1 < c) = false := decide_eq_false hc2
  clear hc2
  go_enter Tryd.func30, Tryd.ntmps30
  go_upto_region 2 with (fail)
  rw [HW3.out]
  clear HW3
  go_upto_region 5 with (go_at_call 54; go_must (refine HKN.out.mono ?_; rintro e_ W4 ⟨rfl, hB4⟩; have HF := Aside0.mk (HL.out.below (below_step HBA.out hB4)); clear hB4 HL HKN HBA hz0 hz1 hz2 hz3 hy0 hy1 hy2 hy3))
  have hz1 := HF.out.1.c1
  have hx0 := (HF.out.2.2.2.1.cell (World.block_lt_of_cell? w _ HX.out.1)).trans HX.out.1
  have hx1 := (HF.out.2.2.2.1.cell (World.block_lt_of_cell? w _ HX.out.2.1)).trans HX.out.2.1
  have hx2 := (HF.out.2.2.2.1.cell (World.block_lt_of_cell? w _ HX.out.2.2)).trans HX.out.2.2
  go_upto_region 6 with (fail)
  obtain ⟨W5, hW5⟩ : ∃ W5, W5 = W4.alloc (.cells #[.int .i64 sa, .int .i64 s1, .int .i64 s2] 38) := ⟨_, rfl⟩
  rw [← hW5]
  have hb5 : Below W4.heap.size W4 W5 := by rw [hW5]; exact below_alloc (Below.refl _ _) _
  have hs5 : W5.heap.size = W4.heap.size + 1 := by rw [hW5]; simp
  have hr14 : W5.heap[W4.heap.size]? = some (.cells #[.int .i64 sa, .int .i64 s1, .int .i64 s2] 38 (0, 0)) := by rw [hW5]; exact heap_alloc_new W4 _
  have HM := Aside0.mk (show bookAt W5 w.heap.size t _ _ fl ∧ bookAt W5 (w.heap.size + 1) 0 (.slice none 0 0) (.slice none 0 0) false ∧ W5.heap[w.heap.size + 1 + 1]? = some (.cells #[.int .i64 1, .int .i64 a] 29 (0, 0)) ∧ Below w.heap.size w W5 ∧ w.heap.size + 4 ≤ W4.heap.size ∧ W5.heap.size = W4.heap.size + 1 ∧ W5.heap[W4.heap.size]? = some (.cells #[.int .i64 sa, .int .i64 s1, .int .i64 s2] 38 (0, 0)) from
    ⟨HF.out.1.below hb5 HF.out.1.lt, HF.out.2.1.below hb5 HF.out.2.1.lt, (hb5.block _ (by have := HF.out.2.2.2.2; omega)).trans HF.out.2.2.1, below_step HF.out.2.2.2.1 hb5, HF.out.2.2.2.2, hs5, hr14⟩)
  have hm1 : W5.cell? ⟨W4.heap.size, 1, none⟩ = some (.int .i64 s1) := (blk_cell hr14 1).trans rfl
  clear hW5 hb5 hs5 hr14 HF hz1 hx0 hx1 hx2
  go_upto_region 8 with (fail)
  clear hm1
  have hz0 := HM.out.1.c0
  have hz1 := HM.out.1.c1
  have hz2 := HM.out.1.c2
  have hz3 := HM.out.1.c3
  have hy0 : W5.cell? ⟨w.heap.size + 1 + 1, 0, none⟩ = some (.int .i64 1) := (blk_cell HM.out.2.2.1 0).trans rfl
  have hy1 : W5.cell? ⟨w.heap.size + 1 + 1, 1, none⟩ = some (.int .i64 a) := (blk_cell HM.out.2.2.1 1).trans rfl
  have hen := ended_any 59 #[] (enters_of Tryd.func59 (by kernel_rfl) rfl) (fun s => ⟨2, s.f1, s.f2⟩) (fun _ => false) t fl (some ad) c0 l0 A1 c1 l1 1 a r1 r2 r3 r4 r5 W5 (Kd.C_below H0.out HM.out.2.2.2.1) (Kd.C_below H1.out HM.out.2.2.2.1) HL0.out.1 HL0.out.2 (HT.out.below HM.out.2.2.2.1)
    (fun W gb gs off u0 u1 s g1 g2 g3 g4 g5 g6 g7 => do_hold W gb gs off t u0 u1 false s g3 g4 g5) hend
  have HEN := Aside0.mk hen
  clear hen hend
  go_upto_region 9 with (go_at_call 45; go_must (refine HEN.out.mono ?_; rintro e_ W6 ⟨v1, v2, rfl, hr1, hr2, hB6⟩; have HR1 := Aside0.mk (Kd.R_mono (Kd.R_bound hr1) (fun k hk => (⟨hk.1, hk.2.1⟩ : _ ∧ W5.heap.size ≤ k))); have HR2 := Aside0.mk (Kd.R_mono (Kd.R_bound hr2) (fun k hk => (⟨hk.1, hk.2.1⟩ : _ ∧ W5.heap.size ≤ k))); have HG := Aside0.mk (show bookAt W6 w.heap.size t _ _ fl ∧ bookAt W6 (w.heap.size + 1) 0 (.slice none 0 0) (.slice none 0 0) false ∧ Below w.heap.size w W6 ∧ W6.heap[W4.heap.size]? = some (.cells #[.int .i64 sa, .int .i64 s1, .int .i64 s2] 38 (0, 0)) from ⟨HM.out.1.below hB6 HM.out.1.lt, HM.out.2.1.below hB6 HM.out.2.1.lt, below_step HM.out.2.2.2.1 hB6, (hB6.block _ (by have := HM.out.2.2.2.2.2.1; omega)).trans HM.out.2.2.2.2.2.2⟩); clear hr1 hr2 hB6 HEN hz0 hz1 hz2 hz3 hy0 hy1; obtain ⟨B1, d1_, e1⟩ := Kd.R_slice HR1.out; subst e1; obtain ⟨B2, d2_, e2⟩ := Kd.R_slice HR2.out; subst e2; have hz0 := HG.out.1.c0; have hz1 := HG.out.1.c1; have hz2 := HG.out.1.c2; have hz3 := HG.out.1.c3; have hq0 : W6.frozen? ⟨w.heap.size, 0, none⟩ = false := frozen_of_row _ _ _ _ _ HG.out.1; have hq1 : W6.frozen? ⟨w.heap.size, 1, none⟩ = false := frozen_of_row _ _ _ _ _ HG.out.1; have hq2 : W6.frozen? ⟨w.heap.size, 2, none⟩ = false := frozen_of_row _ _ _ _ _ HG.out.1; have hq3 : W6.frozen? ⟨w.heap.size, 3, none⟩ = false := frozen_of_row _ _ _ _ _ HG.out.1))
  clear hz0 hz1 hz2 hz3 hq0 hq1 hq2 hq3
  obtain ⟨W7, hW7⟩ : ∃ W7, W7 = (((W6.setCell ⟨w.heap.size, 0, none⟩ (.int .i64 r1)).setCell ⟨w.heap.size, 1, none⟩ (.slice B1 r2.length d1_)).setCell ⟨w.heap.size, 2, none⟩ (.slice B2 r3.length d2_)).setCell ⟨w.heap.size, 3, none⟩ (.bool r4) := ⟨_, rfl⟩
  rw [← hW7]
  have hfar : ∀ k, k ≠ w.heap.size → W7.heap[k]? = W6.heap[k]? := fun k hk => by rw [hW7, Below.heap_setCell _ _ _ _ hk, Below.heap_setCell _ _ _ _ hk, Below.heap_setCell _ _ _ _ hk, Below.heap_setCell _ _ _ _ hk]
  have HN := Aside0.mk (show bookAt W7 w.heap.size r1 (.slice B1 r2.length d1_) (.slice B2 r3.length d2_) r4 ∧ bookAt W7 (w.heap.size + 1) 0 (.slice none 0 0) (.slice none 0 0) false ∧ Below w.heap.size w W7 ∧ W7.heap[W4.heap.size]? = some (.cells #[.int .i64 sa, .int .i64 s1, .int .i64 s2] 38 (0, 0)) from
    ⟨by rw [hW7]; refine blk_put (cs := #[.int .i64 r1, .slice B1 r2.length d1_, .slice B2 r3.length d2_, .bool fl]) ?_ 3 _ rfl; refine blk_put (cs := #[.int .i64 r1, .slice B1 r2.length d1_, .slice A1 l1.length c1, .bool fl]) ?_ 2 _ rfl; refine blk_put (cs := #[.int .i64 r1, .slice (some ad) l0.length c0, .slice A1 l1.length c1, .bool fl]) ?_ 1 _ rfl; refine blk_put (cs := #[.int .i64 t, .slice (some ad) l0.length c0, .slice A1 l1.length c1, .bool fl]) ?_ 0 _ rfl; exact HG.out.1,
     (hfar _ (by omega)).trans HG.out.2.1, by rw [hW7]; exact (((HG.out.2.2.1.setCell (Nat.le_refl _) _).setCell (Nat.le_refl _) _).setCell (Nat.le_refl _) _).setCell (Nat.le_refl _) _, (hfar _ (by have := HM.out.2.2.2.2.1; omega)).trans HG.out.2.2.2⟩)
  have hsz : w.heap.size + 4 ≤ W5.heap.size := by have := HM.out.2.2.2.2; omega
  have HS := Aside0.mk hsz
  have HQ1 := Aside0.mk (show Kd.R k38 38 W7 W5.heap.size (fun k => some k ≠ (Value.slice B2 r3.length d2_).ownBlock ∧ W5.heap.size ≤ k) (.slice B1 r2.length d1_) r2 from by
    rw [hW7]
    exact Kd.R_far (p := ⟨w.heap.size, 3, none⟩) (Kd.R_far (p := ⟨w.heap.size, 2, none⟩) (Kd.R_far (p := ⟨w.heap.size, 1, none⟩) (Kd.R_far (p := ⟨w.heap.size, 0, none⟩) HR1.out (fun k hk => by have := hk.2; simp; omega) _) (fun k hk => by have := hk.2; simp; omega) _) (fun k hk => by have := hk.2; simp; omega) _) (fun k hk => by have := hk.2; simp; omega) _)
  have HQ2 := Aside0.mk (show Kd.R k38 38 W7 W5.heap.size (fun k => some k ≠ (Value.slice B1 r2.length d1_).ownBlock ∧ W5.heap.size ≤ k) (.slice B2 r3.length d2_) r3 from by
    rw [hW7]
    exact Kd.R_far (p := ⟨w.heap.size, 3, none⟩) (Kd.R_far (p := ⟨w.heap.size, 2, none⟩) (Kd.R_far (p := ⟨w.heap.size, 1, none⟩) (Kd.R_far (p := ⟨w.heap.size, 0, none⟩) HR2.out (fun k hk => by have := hk.2; simp; omega) _) (fun k hk => by have := hk.2; simp; omega) _) (fun k hk => by have := hk.2; simp; omega) _) (fun k hk => by have := hk.2; simp; omega) _)
  clear hW7 hfar HG HR1 HR2 hsz HM
  subst hr5
  have hm0 : W7.cell? ⟨W4.heap.size, 0, none⟩ = some (.int .i64 sa) := (blk_cell HN.out.2.2.2 0).trans rfl
  have hm1 : W7.cell? ⟨W4.heap.size, 1, none⟩ = some (.int .i64 s1) := (blk_cell HN.out.2.2.2 1).trans rfl
  have d3 : (sa == 3) = false := beq_eq_false_iff_ne.2 hst
  clear hst
  have hz0 := HN.out.1.c0
  have hz1 := HN.out.1.c1
  have hz2 := HN.out.1.c2
  have hz3 := HN.out.1.c3
  have hc0 : W7.cell? ⟨w.heap.size + 1, 0, none⟩ = some (.int .i64 0) := HN.out.2.1.c0
  have hc1 : W7.cell? ⟨w.heap.size + 1, 1, none⟩ = some (.slice none 0 0) := HN.out.2.1.c1
  have hc2 : W7.cell? ⟨w.heap.size + 1, 2, none⟩ = some (.slice none 0 0) := HN.out.2.1.c2
  have hc3 : W7.cell? ⟨w.heap.size + 1, 3, none⟩ = some (.bool false) := HN.out.2.1.c3
  have hf0 : W7.frozen? ⟨w.heap.size + 1, 0, none⟩ = false := frozen_of_row _ _ _ _ _ HN.out.2.1
  have hf1 : W7.frozen? ⟨w.heap.size + 1, 1, none⟩ = false := frozen_of_row _ _ _ _ _ HN.out.2.1
  have hf2 : W7.frozen? ⟨w.heap.size + 1, 2, none⟩ = false := frozen_of_row _ _ _ _ _ HN.out.2.1
  have hf3 : W7.frozen? ⟨w.heap.size + 1, 3, none⟩ = false := frozen_of_row _ _ _ _ _ HN.out.2.1
  go_wp2_with fail
  refine bodyPost_ret (results_ctt rfl _ _ (w.heap.size + 1) 24 #[.int .i64 r1, .slice B1 r2.length d1_, .slice B2 r3.length d2_, .bool r4] (0, 0) _ rfl (by refine blk_put (cs := #[.int .i64 r1, .slice B1 r2.length d1_, .slice B2 r3.length d2_, .bool false]) ?_ 3 _ rfl; refine blk_put (cs := #[.int .i64 r1, .slice B1 r2.length d1_, .slice none 0 0, .bool false]) ?_ 2 _ rfl; refine blk_put (cs := #[.int .i64 r1, .slice none 0 0, .slice none 0 0, .bool false]) ?_ 1 _ rfl; refine blk_put (cs := #[.int .i64 0, .slice none 0 0, .slice none 0 0, .bool false]) ?_ 0 _ rfl; exact HN.out.2.1) Tryd.underlying24 rfl (by kernel_rfl)) rfl ?_
  have hs := HS.out
  refine ⟨_, _, rfl, ?_, ?_, (((HN.out.2.2.1.setCell (by simp) _).setCell (by simp) _).setCell (by simp) _).setCell (by simp) _⟩
  · exact Kd.R_lower (Kd.R_mono (Kd.R_far (p := ⟨w.heap.size + 1, 3, none⟩) (Kd.R_far (p := ⟨w.heap.size + 1, 2, none⟩) (Kd.R_far (p := ⟨w.heap.size + 1, 1, none⟩) (Kd.R_far (p := ⟨w.heap.size + 1, 0, none⟩) HQ1.out (fun k hk => by have := hk.2; simp; omega) _) (fun k hk => by have := hk.2; simp; omega) _) (fun k hk => by have := hk.2; simp; omega) _) (fun k hk => by have := hk.2; simp; omega) _) (fun k hk => hk.1)) (by omega)
  · exact Kd.R_lower (Kd.R_mono (Kd.R_far (p := ⟨w.heap.size + 1, 3, none⟩) (Kd.R_far (p := ⟨w.heap.size + 1, 2, none⟩) (Kd.R_far (p := ⟨w.heap.size + 1, 1, none⟩) (Kd.R_far (p := ⟨w.heap.size + 1, 0, none⟩) HQ2.out (fun k hk => by have := hk.2; simp; omega) _) (fun k hk => by have := hk.2; simp; omega) _) (fun k hk => by have := hk.2; simp; omega) _) (fun k hk => by have := hk.2; simp; omega) _) (fun k hk => hk.1)) (by omega)

set_option maxHeartbeats 4000000 in
set_option maxRecDepth 100000 in
theorem blame_free3 (t : Int) (fl : Bool) (A0 : Option Addr) (c0 : Nat) (l0 : List S38) (A1 : Option Addr) (c1 : Nat) (l1 : List S38) (a : Int) (b : Nat) (c : Int) (w : World)
    (h0 : Kd.C k38 w A0 l0.length l0) (h1 : Kd.C k38 w A1 l1.length l1) (hl0 : l0.length ≤ 6000000000000) (hl1 : l1.length ≤ 6000000000000) (hT : Tab w) (he : knownP t l0 l1 fl [⟨1, a⟩, ⟨0, (b : Int)⟩] = 0) (hb : b < l0.length) (hc : ¬ c < 1) (hc2 : ¬ (rd_T38 l0 (b : Int)).f1 < c) (r1 : Int) (r2 r3 : List S38) (r4 : Bool) (r5 : Int) (hend : endP t l0 l1 fl 1 a (fun s => ⟨2, s.f1, s.f2⟩) (fun _ => false) = (r1, r2, r3, r4, r5)) (hr5 : r5 = 0) (hst : (rd_T38 l0 (b : Int)).f0 = 3) (hat : (rd_T38 l0 (b : Int)).f1 ≠ c) :
    Calls Tryd.prog 30 #[.agg #[.int .i64 t, .slice A0 l0.length c0, .slice A1 l1.length c1, .bool fl], .int .i64 a, .int .i64 b, .int .i64 c] w fun e_ w' => ∃ v1 v2 : Value, e_ = .returned (.tuple #[.agg #[.int .i64 r1, v1, v2, .bool r4], .bool false, .int .i64 0]) ∧ Kd.R k38 38 w' w.heap.size (fun k => some k ≠ v2.ownBlock) v1 r2 ∧ Kd.R k38 38 w' w.heap.size (fun k => some k ≠ v1.ownBlock) v2 r3 ∧ Below w.heap.size w w' := by
  have hl3 := lays4_of w t (.slice A0 l0.length c0) (.slice A1 l1.length c1) fl a b
  have hba : Below w.heap.size w ((w4of w t (.slice A0 l0.length c0) (.slice A1 l1.length c1) fl a b).alloc (.cells #[.int .i64 1, .int .i64 a, .int .i64 0, .int .i64 b] 29)) := below_alloc hl3.q0 _
  have hkn := known_any t fl A0 c0 l0 A1 c1 l1 (some ⟨(w4of w t (.slice A0 l0.length c0) (.slice A1 l1.length c1) fl a b).heap.size, 0, none⟩) 2 [⟨1, a⟩, ⟨0, b⟩] ((w4of w t (.slice A0 l0.length c0) (.slice A1 l1.length c1) fl a b).alloc (.cells #[.int .i64 1, .int .i64 a, .int .i64 0, .int .i64 b] 29)) (Kd.C_below h0 hba) (Kd.C_below h1 hba) (C_two (w4of w t (.slice A0 l0.length c0) (.slice A1 l1.length c1) fl a b) 1 a 0 b) (by simp) hl0 hl1 (hT.below hba)
  rw [he] at hkn
  have H0 := Aside0.mk h0
  have H1 := Aside0.mk h1
  have HT := Aside0.mk hT
  have HL0 := Aside0.mk (And.intro hl0 hl1)
  obtain ⟨W3, hW3⟩ : ∃ W3, (w4of w t (.slice A0 l0.length c0) (.slice A1 l1.length c1) fl a b) = W3 := ⟨_, rfl⟩
  rw [hW3] at hl3 hba hkn
  unfold w4of at hW3
  have HW3 := Aside0.mk hW3
  have HL := Aside0.mk hl3
  have HKN := Aside0.mk hkn
  have ha := below_alloc (Below.refl W3.heap.size W3) (.cells #[.int .i64 1, .int .i64 a, .int .i64 0, .int .i64 b] 29)
  have HBA := Aside0.mk ha
  clear hba hkn h0 h1 he hl3 hT hl0 hl1 ha hW3
  have hu22 := Tryd.underlying22
  have hu29 := Tryd.underlying29
  have hu24 := Tryd.underlying24
  have hu38 := Tryd.underlying38
  have hu26 := Tryd.underlying26
  have hz0 := HL.out.q2.c0
  have hz1 := HL.out.q2.c1
  have hz2 := HL.out.q2.c2
  have hz3 := HL.out.q2.c3
  have hy0 : W3.cell? ⟨w.heap.size + 1 + 1, 0, none⟩ = some (.int .i64 1) := (blk_cell HL.out.q4 0).trans rfl
  have hy1 : W3.cell? ⟨w.heap.size + 1 + 1, 1, none⟩ = some (.int .i64 a) := (blk_cell HL.out.q4 1).trans rfl
  have hy2 : W3.cell? ⟨w.heap.size + 1 + 1 + 1, 0, none⟩ = some (.int .i64 0) := (blk_cell HL.out.q5 0).trans rfl
  have hy3 : W3.cell? ⟨w.heap.size + 1 + 1 + 1, 1, none⟩ = some (.int .i64 b) := (blk_cell HL.out.q5 1).trans rfl
  obtain ⟨ad, ea, hx0, hx1, hx2⟩ := at_T38 H0.out (b : Int) (by omega) (by omega)
  subst ea
  rw [Int.toNat_natCast] at hx0 hx1 hx2
  obtain ⟨⟨sa, s1, s2⟩, hs⟩ : ∃ s, rd_T38 l0 (b : Int) = s := ⟨_, rfl⟩
  rw [hs] at hx0 hx1 hx2
  rw [hs] at hc2
  rw [hs] at hst
  rw [hs] at hat
  dsimp only at *
  subst hst
  have d4 : (s1 == c) = false := beq_eq_false_iff_ne.2 hat
  clear hat
  have HX := Aside0.mk (And.intro hx0 (And.intro hx1 hx2))
  have HBI := Aside0.mk hb
  clear hx0 hx1 hx2 hs
  have d1 : decide (c < 1) = false := decide_eq_false hc
  clear hc
  have d2 : decide (s1 < c) = false := decide_eq_false hc2
  clear hc2
  go_enter Tryd.func30, Tryd.ntmps30
  go_upto_region 2 with (fail)
  rw [HW3.out]
  clear HW3
  go_upto_region 5 with (go_at_call 54; go_must (refine HKN.out.mono ?_; rintro e_ W4 ⟨rfl, hB4⟩; have HF := Aside0.mk (HL.out.below (below_step HBA.out hB4)); clear hB4 HL HKN HBA hz0 hz1 hz2 hz3 hy0 hy1 hy2 hy3))
  have hz1 := HF.out.1.c1
  have hx0 := (HF.out.2.2.2.1.cell (World.block_lt_of_cell? w _ HX.out.1)).trans HX.out.1
  have hx1 := (HF.out.2.2.2.1.cell (World.block_lt_of_cell? w _ HX.out.2.1)).trans HX.out.2.1
  have hx2 := (HF.out.2.2.2.1.cell (World.block_lt_of_cell? w _ HX.out.2.2)).trans HX.out.2.2
  go_upto_region 6 with (fail)
  obtain ⟨W5, hW5⟩ : ∃ W5, W5 = W4.alloc (.cells #[.int .i64 3, .int .i64 s1, .int .i64 s2] 38) := ⟨_, rfl⟩
  rw [← hW5]
  have hb5 : Below W4.heap.size W4 W5 := by rw [hW5]; exact below_alloc (Below.refl _ _) _
  have hs5 : W5.heap.size = W4.heap.size + 1 := by rw [hW5]; simp
  have hr14 : W5.heap[W4.heap.size]? = some (.cells #[.int .i64 3, .int .i64 s1, .int .i64 s2] 38 (0, 0)) := by rw [hW5]; exact heap_alloc_new W4 _
  have HM := Aside0.mk (show bookAt W5 w.heap.size t _ _ fl ∧ bookAt W5 (w.heap.size + 1) 0 (.slice none 0 0) (.slice none 0 0) false ∧ W5.heap[w.heap.size + 1 + 1]? = some (.cells #[.int .i64 1, .int .i64 a] 29 (0, 0)) ∧ Below w.heap.size w W5 ∧ w.heap.size + 4 ≤ W4.heap.size ∧ W5.heap.size = W4.heap.size + 1 ∧ W5.heap[W4.heap.size]? = some (.cells #[.int .i64 3, .int .i64 s1, .int .i64 s2] 38 (0, 0)) from
    ⟨HF.out.1.below hb5 HF.out.1.lt, HF.out.2.1.below hb5 HF.out.2.1.lt, (hb5.block _ (by have := HF.out.2.2.2.2; omega)).trans HF.out.2.2.1, below_step HF.out.2.2.2.1 hb5, HF.out.2.2.2.2, hs5, hr14⟩)
  have hm1 : W5.cell? ⟨W4.heap.size, 1, none⟩ = some (.int .i64 s1) := (blk_cell hr14 1).trans rfl
  clear hW5 hb5 hs5 hr14 HF hz1 hx0 hx1 hx2
  go_upto_region 8 with (fail)
  clear hm1
  have hz0 := HM.out.1.c0
  have hz1 := HM.out.1.c1
  have hz2 := HM.out.1.c2
  have hz3 := HM.out.1.c3
  have hy0 : W5.cell? ⟨w.heap.size + 1 + 1, 0, none⟩ = some (.int .i64 1) := (blk_cell HM.out.2.2.1 0).trans rfl
  have hy1 : W5.cell? ⟨w.heap.size + 1 + 1, 1, none⟩ = some (.int .i64 a) := (blk_cell HM.out.2.2.1 1).trans rfl
  have hen := ended_any 59 #[] (enters_of Tryd.func59 (by kernel_rfl) rfl) (fun s => ⟨2, s.f1, s.f2⟩) (fun _ => false) t fl (some ad) c0 l0 A1 c1 l1 1 a r1 r2 r3 r4 r5 W5 (Kd.C_below H0.out HM.out.2.2.2.1) (Kd.C_below H1.out HM.out.2.2.2.1) HL0.out.1 HL0.out.2 (HT.out.below HM.out.2.2.2.1)
    (fun W gb gs off u0 u1 s g1 g2 g3 g4 g5 g6 g7 => do_hold W gb gs off t u0 u1 false s g3 g4 g5) hend
  have HEN := Aside0.mk hen
  clear hen hend
  go_upto_region 9 with (go_at_call 45; go_must (refine HEN.out.mono ?_; rintro e_ W6 ⟨v1, v2, rfl, hr1, hr2, hB6⟩; have HR1 := Aside0.mk (Kd.R_mono (Kd.R_bound hr1) (fun k hk => (⟨hk.1, hk.2.1⟩ : _ ∧ W5.heap.size ≤ k))); have HR2 := Aside0.mk (Kd.R_mono (Kd.R_bound hr2) (fun k hk => (⟨hk.1, hk.2.1⟩ : _ ∧ W5.heap.size ≤ k))); have HG := Aside0.mk (show bookAt W6 w.heap.size t _ _ fl ∧ bookAt W6 (w.heap.size + 1) 0 (.slice none 0 0) (.slice none 0 0) false ∧ Below w.heap.size w W6 ∧ W6.heap[W4.heap.size]? = some (.cells #[.int .i64 3, .int .i64 s1, .int .i64 s2] 38 (0, 0)) from ⟨HM.out.1.below hB6 HM.out.1.lt, HM.out.2.1.below hB6 HM.out.2.1.lt, below_step HM.out.2.2.2.1 hB6, (hB6.block _ (by have := HM.out.2.2.2.2.2.1; omega)).trans HM.out.2.2.2.2.2.2⟩); clear hr1 hr2 hB6 HEN hz0 hz1 hz2 hz3 hy0 hy1; obtain ⟨B1, d1_, e1⟩ := Kd.R_slice HR1.out; subst e1; obtain ⟨B2, d2_, e2⟩ := Kd.R_slice HR2.out; subst e2; have hz0 := HG.out.1.c0; have hz1 := HG.out.1.c1; have hz2 := HG.out.1.c2; have hz3 := HG.out.1.c3; have hq0 : W6.frozen? ⟨w.heap.size, 0, none⟩ = false := frozen_of_row _ _ _ _ _ HG.out.1; have hq1 : W6.frozen? ⟨w.heap.size, 1, none⟩ = false := frozen_of_row _ _ _ _ _ HG.out.1; have hq2 : W6.frozen? ⟨w.heap.size, 2, none⟩ = false := frozen_of_row _ _ _ _ _ HG.out.1; have hq3 : W6.frozen? ⟨w.heap.size, 3, none⟩ = false := frozen_of_row _ _ _ _ _ HG.out.1))
  clear hz0 hz1 hz2 hz3 hq0 hq1 hq2 hq3
  obtain ⟨W7, hW7⟩ : ∃ W7, W7 = (((W6.setCell ⟨w.heap.size, 0, none⟩ (.int .i64 r1)).setCell ⟨w.heap.size, 1, none⟩ (.slice B1 r2.length d1_)).setCell ⟨w.heap.size, 2, none⟩ (.slice B2 r3.length d2_)).setCell ⟨w.heap.size, 3, none⟩ (.bool r4) := ⟨_, rfl⟩
  rw [← hW7]
  have hfar : ∀ k, k ≠ w.heap.size → W7.heap[k]? = W6.heap[k]? := fun k hk => by rw [hW7, Below.heap_setCell _ _ _ _ hk, Below.heap_setCell _ _ _ _ hk, Below.heap_setCell _ _ _ _ hk, Below.heap_setCell _ _ _ _ hk]
  have HN := Aside0.mk (show bookAt W7 w.heap.size r1 (.slice B1 r2.length d1_) (.slice B2 r3.length d2_) r4 ∧ bookAt W7 (w.heap.size + 1) 0 (.slice none 0 0) (.slice none 0 0) false ∧ Below w.heap.size w W7 ∧ W7.heap[W4.heap.size]? = some (.cells #[.int .i64 3, .int .i64 s1, .int .i64 s2] 38 (0, 0)) from
    ⟨by rw [hW7]; refine blk_put (cs := #[.int .i64 r1, .slice B1 r2.length d1_, .slice B2 r3.length d2_, .bool fl]) ?_ 3 _ rfl; refine blk_put (cs := #[.int .i64 r1, .slice B1 r2.length d1_, .slice A1 l1.length c1, .bool fl]) ?_ 2 _ rfl; refine blk_put (cs := #[.int .i64 r1, .slice (some ad) l0.length c0, .slice A1 l1.length c1, .bool fl]) ?_ 1 _ rfl; refine blk_put (cs := #[.int .i64 t, .slice (some ad) l0.length c0, .slice A1 l1.length c1, .bool fl]) ?_ 0 _ rfl; exact HG.out.1,
     (hfar _ (by omega)).trans HG.out.2.1, by rw [hW7]; exact (((HG.out.2.2.1.setCell (Nat.le_refl _) _).setCell (Nat.le_refl _) _).setCell (Nat.le_refl _) _).setCell (Nat.le_refl _) _, (hfar _ (by have := HM.out.2.2.2.2.1; omega)).trans HG.out.2.2.2⟩)
  have hsz : w.heap.size + 4 ≤ W5.heap.size := by have := HM.out.2.2.2.2; omega
  have HS := Aside0.mk hsz
  have HQ1 := Aside0.mk (show Kd.R k38 38 W7 W5.heap.size (fun k => some k ≠ (Value.slice B2 r3.length d2_).ownBlock ∧ W5.heap.size ≤ k) (.slice B1 r2.length d1_) r2 from by
    rw [hW7]
    exact Kd.R_far (p := ⟨w.heap.size, 3, none⟩) (Kd.R_far (p := ⟨w.heap.size, 2, none⟩) (Kd.R_far (p := ⟨w.heap.size, 1, none⟩) (Kd.R_far (p := ⟨w.heap.size, 0, none⟩) HR1.out (fun k hk => by have := hk.2; simp; omega) _) (fun k hk => by have := hk.2; simp; omega) _) (fun k hk => by have := hk.2; simp; omega) _) (fun k hk => by have := hk.2; simp; omega) _)
  have HQ2 := Aside0.mk (show Kd.R k38 38 W7 W5.heap.size (fun k => some k ≠ (Value.slice B1 r2.length d1_).ownBlock ∧ W5.heap.size ≤ k) (.slice B2 r3.length d2_) r3 from by
    rw [hW7]
    exact Kd.R_far (p := ⟨w.heap.size, 3, none⟩) (Kd.R_far (p := ⟨w.heap.size, 2, none⟩) (Kd.R_far (p := ⟨w.heap.size, 1, none⟩) (Kd.R_far (p := ⟨w.heap.size, 0, none⟩) HR2.out (fun k hk => by have := hk.2; simp; omega) _) (fun k hk => by have := hk.2; simp; omega) _) (fun k hk => by have := hk.2; simp; omega) _) (fun k hk => by have := hk.2; simp; omega) _)
  clear hW7 hfar HG HR1 HR2 hsz HM
  subst hr5
  have hm0 : W7.cell? ⟨W4.heap.size, 0, none⟩ = some (.int .i64 3) := (blk_cell HN.out.2.2.2 0).trans rfl
  have hm1 : W7.cell? ⟨W4.heap.size, 1, none⟩ = some (.int .i64 s1) := (blk_cell HN.out.2.2.2 1).trans rfl
  have hz0 := HN.out.1.c0
  have hz1 := HN.out.1.c1
  have hz2 := HN.out.1.c2
  have hz3 := HN.out.1.c3
  have hc0 : W7.cell? ⟨w.heap.size + 1, 0, none⟩ = some (.int .i64 0) := HN.out.2.1.c0
  have hc1 : W7.cell? ⟨w.heap.size + 1, 1, none⟩ = some (.slice none 0 0) := HN.out.2.1.c1
  have hc2 : W7.cell? ⟨w.heap.size + 1, 2, none⟩ = some (.slice none 0 0) := HN.out.2.1.c2
  have hc3 : W7.cell? ⟨w.heap.size + 1, 3, none⟩ = some (.bool false) := HN.out.2.1.c3
  have hf0 : W7.frozen? ⟨w.heap.size + 1, 0, none⟩ = false := frozen_of_row _ _ _ _ _ HN.out.2.1
  have hf1 : W7.frozen? ⟨w.heap.size + 1, 1, none⟩ = false := frozen_of_row _ _ _ _ _ HN.out.2.1
  have hf2 : W7.frozen? ⟨w.heap.size + 1, 2, none⟩ = false := frozen_of_row _ _ _ _ _ HN.out.2.1
  have hf3 : W7.frozen? ⟨w.heap.size + 1, 3, none⟩ = false := frozen_of_row _ _ _ _ _ HN.out.2.1
  go_wp2_with fail
  refine bodyPost_ret (results_ctt rfl _ _ (w.heap.size + 1) 24 #[.int .i64 r1, .slice B1 r2.length d1_, .slice B2 r3.length d2_, .bool r4] (0, 0) _ rfl (by refine blk_put (cs := #[.int .i64 r1, .slice B1 r2.length d1_, .slice B2 r3.length d2_, .bool false]) ?_ 3 _ rfl; refine blk_put (cs := #[.int .i64 r1, .slice B1 r2.length d1_, .slice none 0 0, .bool false]) ?_ 2 _ rfl; refine blk_put (cs := #[.int .i64 r1, .slice none 0 0, .slice none 0 0, .bool false]) ?_ 1 _ rfl; refine blk_put (cs := #[.int .i64 0, .slice none 0 0, .slice none 0 0, .bool false]) ?_ 0 _ rfl; exact HN.out.2.1) Tryd.underlying24 rfl (by kernel_rfl)) rfl ?_
  have hs := HS.out
  refine ⟨_, _, rfl, ?_, ?_, (((HN.out.2.2.1.setCell (by simp) _).setCell (by simp) _).setCell (by simp) _).setCell (by simp) _⟩
  · exact Kd.R_lower (Kd.R_mono (Kd.R_far (p := ⟨w.heap.size + 1, 3, none⟩) (Kd.R_far (p := ⟨w.heap.size + 1, 2, none⟩) (Kd.R_far (p := ⟨w.heap.size + 1, 1, none⟩) (Kd.R_far (p := ⟨w.heap.size + 1, 0, none⟩) HQ1.out (fun k hk => by have := hk.2; simp; omega) _) (fun k hk => by have := hk.2; simp; omega) _) (fun k hk => by have := hk.2; simp; omega) _) (fun k hk => by have := hk.2; simp; omega) _) (fun k hk => hk.1)) (by omega)
  · exact Kd.R_lower (Kd.R_mono (Kd.R_far (p := ⟨w.heap.size + 1, 3, none⟩) (Kd.R_far (p := ⟨w.heap.size + 1, 2, none⟩) (Kd.R_far (p := ⟨w.heap.size + 1, 1, none⟩) (Kd.R_far (p := ⟨w.heap.size + 1, 0, none⟩) HQ2.out (fun k hk => by have := hk.2; simp; omega) _) (fun k hk => by have := hk.2; simp; omega) _) (fun k hk => by have := hk.2; simp; omega) _) (fun k hk => by have := hk.2; simp; omega) _) (fun k hk => hk.1)) (by omega)

set_option maxHeartbeats 4000000 in
set_option maxRecDepth 100000 in
theorem blame_guilty (t : Int) (fl : Bool) (A0 : Option Addr) (c0 : Nat) (l0 : List S38) (A1 : Option Addr) (c1 : Nat) (l1 : List S38) (a : Int) (b : Nat) (c : Int) (w : World)
    (h0 : Kd.C k38 w A0 l0.length l0) (h1 : Kd.C k38 w A1 l1.length l1) (hl0 : l0.length ≤ 6000000000000) (hl1 : l1.length ≤ 6000000000000) (hT : Tab w) (he : knownP t l0 l1 fl [⟨1, a⟩, ⟨0, (b : Int)⟩] = 0) (hb : b < l0.length) (hc : ¬ c < 1) (hc2 : ¬ (rd_T38 l0 (b : Int)).f1 < c) (r1 : Int) (r2 r3 : List S38) (r4 : Bool) (r5 : Int) (hend : endP t l0 l1 fl 1 a (fun s => ⟨2, s.f1, s.f2⟩) (fun _ => false) = (r1, r2, r3, r4, r5)) (hr5 : r5 = 0) (hst : (rd_T38 l0 (b : Int)).f0 = 3) (hat : (rd_T38 l0 (b : Int)).f1 = c) (hrd : rd_T38 r2 (b : Int) = rd_T38 l0 (b : Int)) (hrl : b < r2.length) (hch : 0 ≤ (rd_T38 l0 (b : Int)).f2 ∧ (rd_T38 l0 (b : Int)).f2 ≤ 1000) :
    Calls Tryd.prog 30 #[.agg #[.int .i64 t, .slice A0 l0.length c0, .slice A1 l1.length c1, .bool fl], .int .i64 a, .int .i64 b, .int .i64 c] w fun e_ w' => ∃ v1 v2 : Value, e_ = .returned (.tuple #[.agg #[.int .i64 r1, v1, v2, .bool (r4 || decide ((rd_T38 l0 (b : Int)).f2 + 1 = r1))], .bool true, .int .i64 0]) ∧ Kd.R k38 38 w' w.heap.size (fun k => some k ≠ v2.ownBlock) v1 (r2.set b ⟨0, (rd_T38 l0 (b : Int)).f1, (rd_T38 l0 (b : Int)).f2 + 1⟩) ∧ Kd.R k38 38 w' w.heap.size (fun k => some k ≠ v1.ownBlock) v2 r3 ∧ Below w.heap.size w w' := by
  have hl3 := lays4_of w t (.slice A0 l0.length c0) (.slice A1 l1.length c1) fl a b
  have hba : Below w.heap.size w ((w4of w t (.slice A0 l0.length c0) (.slice A1 l1.length c1) fl a b).alloc (.cells #[.int .i64 1, .int .i64 a, .int .i64 0, .int .i64 b] 29)) := below_alloc hl3.q0 _
  have hkn := known_any t fl A0 c0 l0 A1 c1 l1 (some ⟨(w4of w t (.slice A0 l0.length c0) (.slice A1 l1.length c1) fl a b).heap.size, 0, none⟩) 2 [⟨1, a⟩, ⟨0, b⟩] ((w4of w t (.slice A0 l0.length c0) (.slice A1 l1.length c1) fl a b).alloc (.cells #[.int .i64 1, .int .i64 a, .int .i64 0, .int .i64 b] 29)) (Kd.C_below h0 hba) (Kd.C_below h1 hba) (C_two (w4of w t (.slice A0 l0.length c0) (.slice A1 l1.length c1) fl a b) 1 a 0 b) (by simp) hl0 hl1 (hT.below hba)
  rw [he] at hkn
  have H0 := Aside0.mk h0
  have H1 := Aside0.mk h1
  have HT := Aside0.mk hT
  have HL0 := Aside0.mk (And.intro hl0 hl1)
  obtain ⟨W3, hW3⟩ : ∃ W3, (w4of w t (.slice A0 l0.length c0) (.slice A1 l1.length c1) fl a b) = W3 := ⟨_, rfl⟩
  rw [hW3] at hl3 hba hkn
  unfold w4of at hW3
  have HW3 := Aside0.mk hW3
  have HL := Aside0.mk hl3
  have HKN := Aside0.mk hkn
  have ha := below_alloc (Below.refl W3.heap.size W3) (.cells #[.int .i64 1, .int .i64 a, .int .i64 0, .int .i64 b] 29)
  have HBA := Aside0.mk ha
  clear hba hkn h0 h1 he hl3 hT hl0 hl1 ha hW3
  have hu22 := Tryd.underlying22
  have hu29 := Tryd.underlying29
  have hu24 := Tryd.underlying24
  have hu38 := Tryd.underlying38
  have hu26 := Tryd.underlying26
  have hz0 := HL.out.q2.c0
  have hz1 := HL.out.q2.c1
  have hz2 := HL.out.q2.c2
  have hz3 := HL.out.q2.c3
  have hy0 : W3.cell? ⟨w.heap.size + 1 + 1, 0, none⟩ = some (.int .i64 1) := (blk_cell HL.out.q4 0).trans rfl
  have hy1 : W3.cell? ⟨w.heap.size + 1 + 1, 1, none⟩ = some (.int .i64 a) := (blk_cell HL.out.q4 1).trans rfl
  have hy2 : W3.cell? ⟨w.heap.size + 1 + 1 + 1, 0, none⟩ = some (.int .i64 0) := (blk_cell HL.out.q5 0).trans rfl
  have hy3 : W3.cell? ⟨w.heap.size + 1 + 1 + 1, 1, none⟩ = some (.int .i64 b) := (blk_cell HL.out.q5 1).trans rfl
  obtain ⟨ad, ea, hx0, hx1, hx2⟩ := at_T38 H0.out (b : Int) (by omega) (by omega)
  subst ea
  rw [Int.toNat_natCast] at hx0 hx1 hx2
  obtain ⟨⟨sa, s1, s2⟩, hs⟩ : ∃ s, rd_T38 l0 (b : Int) = s := ⟨_, rfl⟩
  rw [hs] at hx0 hx1 hx2
  rw [hs] at hc2
  rw [hs] at hst
  rw [hs] at hat
  rw [hs] at hch
  rw [hs] at hrd
  rw [hs]
  dsimp only at *
  subst hst
  have d4 : (s1 == c) = true := beq_iff_eq.2 hat
  clear hat
  have HRD := Aside0.mk hrd
  clear hrd
  have HX := Aside0.mk (And.intro hx0 (And.intro hx1 hx2))
  have HBI := Aside0.mk hb
  clear hx0 hx1 hx2 hs
  have d1 : decide (c < 1) = false := decide_eq_false hc
  clear hc
  have d2 : decide (s1 < c) = false := decide_eq_false hc2
  clear hc2
  go_enter Tryd.func30, Tryd.ntmps30
  go_upto_region 2 with (fail)
  rw [HW3.out]
  clear HW3
  go_upto_region 5 with (go_at_call 54; go_must (refine HKN.out.mono ?_; rintro e_ W4 ⟨rfl, hB4⟩; have HF := Aside0.mk (HL.out.below (below_step HBA.out hB4)); clear hB4 HL HKN HBA hz0 hz1 hz2 hz3 hy0 hy1 hy2 hy3))
  have hz1 := HF.out.1.c1
  have hx0 := (HF.out.2.2.2.1.cell (World.block_lt_of_cell? w _ HX.out.1)).trans HX.out.1
  have hx1 := (HF.out.2.2.2.1.cell (World.block_lt_of_cell? w _ HX.out.2.1)).trans HX.out.2.1
  have hx2 := (HF.out.2.2.2.1.cell (World.block_lt_of_cell? w _ HX.out.2.2)).trans HX.out.2.2
  go_upto_region 6 with (fail)
  obtain ⟨W5, hW5⟩ : ∃ W5, W5 = W4.alloc (.cells #[.int .i64 3, .int .i64 s1, .int .i64 s2] 38) := ⟨_, rfl⟩
  rw [← hW5]
  have hb5 : Below W4.heap.size W4 W5 := by rw [hW5]; exact below_alloc (Below.refl _ _) _
  have hs5 : W5.heap.size = W4.heap.size + 1 := by rw [hW5]; simp
  have hr14 : W5.heap[W4.heap.size]? = some (.cells #[.int .i64 3, .int .i64 s1, .int .i64 s2] 38 (0, 0)) := by rw [hW5]; exact heap_alloc_new W4 _
  have HM := Aside0.mk (show bookAt W5 w.heap.size t _ _ fl ∧ bookAt W5 (w.heap.size + 1) 0 (.slice none 0 0) (.slice none 0 0) false ∧ W5.heap[w.heap.size + 1 + 1]? = some (.cells #[.int .i64 1, .int .i64 a] 29 (0, 0)) ∧ Below w.heap.size w W5 ∧ w.heap.size + 4 ≤ W4.heap.size ∧ W5.heap.size = W4.heap.size + 1 ∧ W5.heap[W4.heap.size]? = some (.cells #[.int .i64 3, .int .i64 s1, .int .i64 s2] 38 (0, 0)) from
    ⟨HF.out.1.below hb5 HF.out.1.lt, HF.out.2.1.below hb5 HF.out.2.1.lt, (hb5.block _ (by have := HF.out.2.2.2.2; omega)).trans HF.out.2.2.1, below_step HF.out.2.2.2.1 hb5, HF.out.2.2.2.2, hs5, hr14⟩)
  have hm1 : W5.cell? ⟨W4.heap.size, 1, none⟩ = some (.int .i64 s1) := (blk_cell hr14 1).trans rfl
  clear hW5 hb5 hs5 hr14 HF hz1 hx0 hx1 hx2
  go_upto_region 8 with (fail)
  clear hm1
  have hz0 := HM.out.1.c0
  have hz1 := HM.out.1.c1
  have hz2 := HM.out.1.c2
  have hz3 := HM.out.1.c3
  have hy0 : W5.cell? ⟨w.heap.size + 1 + 1, 0, none⟩ = some (.int .i64 1) := (blk_cell HM.out.2.2.1 0).trans rfl
  have hy1 : W5.cell? ⟨w.heap.size + 1 + 1, 1, none⟩ = some (.int .i64 a) := (blk_cell HM.out.2.2.1 1).trans rfl
  have hen := ended_any 59 #[] (enters_of Tryd.func59 (by kernel_rfl) rfl) (fun s => ⟨2, s.f1, s.f2⟩) (fun _ => false) t fl (some ad) c0 l0 A1 c1 l1 1 a r1 r2 r3 r4 r5 W5 (Kd.C_below H0.out HM.out.2.2.2.1) (Kd.C_below H1.out HM.out.2.2.2.1) HL0.out.1 HL0.out.2 (HT.out.below HM.out.2.2.2.1)
    (fun W gb gs off u0 u1 s g1 g2 g3 g4 g5 g6 g7 => do_hold W gb gs off t u0 u1 false s g3 g4 g5) hend
  have HEN := Aside0.mk hen
  clear hen hend
  go_upto_region 9 with (go_at_call 45; go_must (refine HEN.out.mono ?_; rintro e_ W6 ⟨v1, v2, rfl, hr1, hr2, hB6⟩; have HR1 := Aside0.mk (Kd.R_mono (Kd.R_bound hr1) (fun k hk => (⟨hk.1, hk.2.1⟩ : _ ∧ W5.heap.size ≤ k))); have HR2 := Aside0.mk (Kd.R_mono (Kd.R_bound hr2) (fun k hk => (⟨hk.1, hk.2.1⟩ : _ ∧ W5.heap.size ≤ k))); have HG := Aside0.mk (show bookAt W6 w.heap.size t _ _ fl ∧ bookAt W6 (w.heap.size + 1) 0 (.slice none 0 0) (.slice none 0 0) false ∧ Below w.heap.size w W6 ∧ W6.heap[W4.heap.size]? = some (.cells #[.int .i64 3, .int .i64 s1, .int .i64 s2] 38 (0, 0)) from ⟨HM.out.1.below hB6 HM.out.1.lt, HM.out.2.1.below hB6 HM.out.2.1.lt, below_step HM.out.2.2.2.1 hB6, (hB6.block _ (by have := HM.out.2.2.2.2.2.1; omega)).trans HM.out.2.2.2.2.2.2⟩); clear hr1 hr2 hB6 HEN hz0 hz1 hz2 hz3 hy0 hy1; obtain ⟨B1, d1_, e1⟩ := Kd.R_slice HR1.out; subst e1; obtain ⟨B2, d2_, e2⟩ := Kd.R_slice HR2.out; subst e2; have hz0 := HG.out.1.c0; have hz1 := HG.out.1.c1; have hz2 := HG.out.1.c2; have hz3 := HG.out.1.c3; have hq0 : W6.frozen? ⟨w.heap.size, 0, none⟩ = false := frozen_of_row _ _ _ _ _ HG.out.1; have hq1 : W6.frozen? ⟨w.heap.size, 1, none⟩ = false := frozen_of_row _ _ _ _ _ HG.out.1; have hq2 : W6.frozen? ⟨w.heap.size, 2, none⟩ = false := frozen_of_row _ _ _ _ _ HG.out.1; have hq3 : W6.frozen? ⟨w.heap.size, 3, none⟩ = false := frozen_of_row _ _ _ _ _ HG.out.1))
  clear hz0 hz1 hz2 hz3 hq0 hq1 hq2 hq3
  obtain ⟨W7, hW7⟩ : ∃ W7, W7 = (((W6.setCell ⟨w.heap.size, 0, none⟩ (.int .i64 r1)).setCell ⟨w.heap.size, 1, none⟩ (.slice B1 r2.length d1_)).setCell ⟨w.heap.size, 2, none⟩ (.slice B2 r3.length d2_)).setCell ⟨w.heap.size, 3, none⟩ (.bool r4) := ⟨_, rfl⟩
  rw [← hW7]
  have hfar : ∀ k, k ≠ w.heap.size → W7.heap[k]? = W6.heap[k]? := fun k hk => by rw [hW7, Below.heap_setCell _ _ _ _ hk, Below.heap_setCell _ _ _ _ hk, Below.heap_setCell _ _ _ _ hk, Below.heap_setCell _ _ _ _ hk]
  have HN := Aside0.mk (show bookAt W7 w.heap.size r1 (.slice B1 r2.length d1_) (.slice B2 r3.length d2_) r4 ∧ bookAt W7 (w.heap.size + 1) 0 (.slice none 0 0) (.slice none 0 0) false ∧ Below w.heap.size w W7 ∧ W7.heap[W4.heap.size]? = some (.cells #[.int .i64 3, .int .i64 s1, .int .i64 s2] 38 (0, 0)) from
    ⟨by rw [hW7]; refine blk_put (cs := #[.int .i64 r1, .slice B1 r2.length d1_, .slice B2 r3.length d2_, .bool fl]) ?_ 3 _ rfl; refine blk_put (cs := #[.int .i64 r1, .slice B1 r2.length d1_, .slice A1 l1.length c1, .bool fl]) ?_ 2 _ rfl; refine blk_put (cs := #[.int .i64 r1, .slice (some ad) l0.length c0, .slice A1 l1.length c1, .bool fl]) ?_ 1 _ rfl; refine blk_put (cs := #[.int .i64 t, .slice (some ad) l0.length c0, .slice A1 l1.length c1, .bool fl]) ?_ 0 _ rfl; exact HG.out.1,
     (hfar _ (by omega)).trans HG.out.2.1, by rw [hW7]; exact (((HG.out.2.2.1.setCell (Nat.le_refl _) _).setCell (Nat.le_refl _) _).setCell (Nat.le_refl _) _).setCell (Nat.le_refl _) _, (hfar _ (by have := HM.out.2.2.2.2.1; omega)).trans HG.out.2.2.2⟩)
  have hsz : w.heap.size + 4 ≤ W5.heap.size := by have := HM.out.2.2.2.2; omega
  have HS := Aside0.mk hsz
  have HQ1 := Aside0.mk (show Kd.R k38 38 W7 W5.heap.size (fun k => some k ≠ (Value.slice B2 r3.length d2_).ownBlock ∧ W5.heap.size ≤ k) (.slice B1 r2.length d1_) r2 from by
    rw [hW7]
    exact Kd.R_far (p := ⟨w.heap.size, 3, none⟩) (Kd.R_far (p := ⟨w.heap.size, 2, none⟩) (Kd.R_far (p := ⟨w.heap.size, 1, none⟩) (Kd.R_far (p := ⟨w.heap.size, 0, none⟩) HR1.out (fun k hk => by have := hk.2; simp; omega) _) (fun k hk => by have := hk.2; simp; omega) _) (fun k hk => by have := hk.2; simp; omega) _) (fun k hk => by have := hk.2; simp; omega) _)
  have HQ2 := Aside0.mk (show Kd.R k38 38 W7 W5.heap.size (fun k => some k ≠ (Value.slice B1 r2.length d1_).ownBlock ∧ W5.heap.size ≤ k) (.slice B2 r3.length d2_) r3 from by
    rw [hW7]
    exact Kd.R_far (p := ⟨w.heap.size, 3, none⟩) (Kd.R_far (p := ⟨w.heap.size, 2, none⟩) (Kd.R_far (p := ⟨w.heap.size, 1, none⟩) (Kd.R_far (p := ⟨w.heap.size, 0, none⟩) HR2.out (fun k hk => by have := hk.2; simp; omega) _) (fun k hk => by have := hk.2; simp; omega) _) (fun k hk => by have := hk.2; simp; omega) _) (fun k hk => by have := hk.2; simp; omega) _)
  clear hW7 hfar HG HR1 HR2 hsz HM
  subst hr5
  have hm0 : W7.cell? ⟨W4.heap.size, 0, none⟩ = some (.int .i64 3) := (blk_cell HN.out.2.2.2 0).trans rfl
  have hm1 : W7.cell? ⟨W4.heap.size, 1, none⟩ = some (.int .i64 s1) := (blk_cell HN.out.2.2.2 1).trans rfl
  obtain ⟨g, cg, eg, hg1, hg2, _⟩ := Kd.R_form HQ1.out (by omega)
  injection eg with eg1 eg2 eg3
  subst eg1 eg3
  have hgo := HQ1.out.1 g rfl
  have HGO := Aside0.mk hgo
  have hta := taskAt_own HQ1.out b hrl
  rw [HRD.out] at hta
  have hcg := do_charge W7 w.heap.size g (b * 3) r1 _ _ r4 ⟨3, s1, s2⟩ HN.out.1 hta (by have := HS.out; omega) hch.1 hch.2
  have HCG := Aside0.mk hcg
  have HRL := Aside0.mk hrl
  have hlt1 : decide ((b : Int) < (r2.length : Int)) = true := by simp; omega
  clear hgo hta hcg hch hg1 hg2
  have hz1 := HN.out.1.c1
  go_upto_region 14 with (go_at_call 50; go_must (refine HCG.out.mono ?_; rintro e_ W8 ⟨rfl, q, hW8⟩; have HP := Aside0.mk (show bookAt W8 w.heap.size r1 _ _ (r4 || decide (s2 + 1 = r1)) ∧ bookAt W8 (w.heap.size + 1) 0 (.slice none 0 0) (.slice none 0 0) false ∧ Below w.heap.size w W8 ∧ True from (by have hs := HS.out; have hq := HGO.out; rw [hW8]; exact ⟨book_put4 HN.out.1 _ _ (by omega), (put4_heap W7 g (b * 3) _ w.heap.size _ _ (by omega) (by omega)).trans HN.out.2.1, pw_below_drewN (below_put4 HN.out.2.2.1 _ _ (by omega) (Nat.le_refl _)) q, trivial⟩)); have HT1 := Aside0.mk (show Kd.R k38 38 W8 W5.heap.size _ _ (r2.set b ⟨0, s1, s2 + 1⟩) from (by have hs := HS.out; rw [hW8]; exact Kd.R_drewN (R_put4 HQ1.out b HRL.out ⟨0, s1, s2 + 1⟩ (r4 || decide (s2 + 1 = r1)) (fun h => by have := h.2; omega)) q)); have HT2 := Aside0.mk (show Kd.R k38 38 W8 W5.heap.size _ _ r3 from (by have hs := HS.out; rw [hW8]; exact Kd.R_drewN (R_put4_far HQ2.out ⟨0, s1, s2 + 1⟩ (r4 || decide (s2 + 1 = r1)) (fun h => h.1 rfl) (fun h => by have := h.2; omega)) q)); clear hW8 HN HCG HQ1 HQ2 hz1 hm0 hm1))
  have hz0 := HP.out.1.c0
  have hz1 := HP.out.1.c1
  have hz2 := HP.out.1.c2
  have hz3 := HP.out.1.c3
  have hc0 : W8.cell? ⟨w.heap.size + 1, 0, none⟩ = some (.int .i64 0) := HP.out.2.1.c0
  have hc1 : W8.cell? ⟨w.heap.size + 1, 1, none⟩ = some (.slice none 0 0) := HP.out.2.1.c1
  have hc2 : W8.cell? ⟨w.heap.size + 1, 2, none⟩ = some (.slice none 0 0) := HP.out.2.1.c2
  have hc3 : W8.cell? ⟨w.heap.size + 1, 3, none⟩ = some (.bool false) := HP.out.2.1.c3
  have hf0 : W8.frozen? ⟨w.heap.size + 1, 0, none⟩ = false := frozen_of_row _ _ _ _ _ HP.out.2.1
  have hf1 : W8.frozen? ⟨w.heap.size + 1, 1, none⟩ = false := frozen_of_row _ _ _ _ _ HP.out.2.1
  have hf2 : W8.frozen? ⟨w.heap.size + 1, 2, none⟩ = false := frozen_of_row _ _ _ _ _ HP.out.2.1
  have hf3 : W8.frozen? ⟨w.heap.size + 1, 3, none⟩ = false := frozen_of_row _ _ _ _ _ HP.out.2.1
  go_wp2_with fail
  refine bodyPost_ret (results_ctt rfl _ _ (w.heap.size + 1) 24 #[.int .i64 r1, .slice (some ⟨g, 0, none⟩) r2.length d1_, .slice B2 r3.length d2_, .bool (r4 || decide (s2 + 1 = r1))] (0, 0) _ rfl (by refine blk_put (cs := #[.int .i64 r1, .slice (some ⟨g, 0, none⟩) r2.length d1_, .slice B2 r3.length d2_, .bool false]) ?_ 3 _ rfl; refine blk_put (cs := #[.int .i64 r1, .slice (some ⟨g, 0, none⟩) r2.length d1_, .slice none 0 0, .bool false]) ?_ 2 _ rfl; refine blk_put (cs := #[.int .i64 r1, .slice none 0 0, .slice none 0 0, .bool false]) ?_ 1 _ rfl; refine blk_put (cs := #[.int .i64 0, .slice none 0 0, .slice none 0 0, .bool false]) ?_ 0 _ rfl; exact HP.out.2.1) Tryd.underlying24 rfl (by kernel_rfl)) rfl ?_
  have hs := HS.out
  refine ⟨_, _, rfl, ?_, ?_, (((HP.out.2.2.1.setCell (by simp) _).setCell (by simp) _).setCell (by simp) _).setCell (by simp) _⟩
  · exact Kd.R_lower (Kd.R_mono (Kd.R_far (p := ⟨w.heap.size + 1, 3, none⟩) (Kd.R_far (p := ⟨w.heap.size + 1, 2, none⟩) (Kd.R_far (p := ⟨w.heap.size + 1, 1, none⟩) (Kd.R_far (p := ⟨w.heap.size + 1, 0, none⟩) HT1.out (fun k hk => by have := hk.2; simp; omega) _) (fun k hk => by have := hk.2; simp; omega) _) (fun k hk => by have := hk.2; simp; omega) _) (fun k hk => by have := hk.2; simp; omega) _) (fun k hk => hk.1)) (by omega)
  · exact Kd.R_lower (Kd.R_mono (Kd.R_far (p := ⟨w.heap.size + 1, 3, none⟩) (Kd.R_far (p := ⟨w.heap.size + 1, 2, none⟩) (Kd.R_far (p := ⟨w.heap.size + 1, 1, none⟩) (Kd.R_far (p := ⟨w.heap.size + 1, 0, none⟩) HT2.out (fun k hk => by have := hk.2; simp; omega) _) (fun k hk => by have := hk.2; simp; omega) _) (fun k hk => by have := hk.2; simp; omega) _) (fun k hk => by have := hk.2; simp; omega) _) (fun k hk => hk.1)) (by omega)
end Go.Proofs.YtponmfnegdlppaaDoor.P

end
