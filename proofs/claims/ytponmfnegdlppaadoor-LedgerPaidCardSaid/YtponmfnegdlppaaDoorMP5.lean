/- Several texts laid together (wip/tools/merge2.py): HEnded, HDone. -/
import Derived.Test.YtponmfnegdlppaaDoorMP4
section
/- ledger.ended, by hand (printed by HEnded.gen.py). -/
namespace Go.Proofs.YtponmfnegdlppaaDoor.P
open Go.RowKit Go.Proofs.YtponmfnegdlppaaDoorW.PrintWords Go.Proofs.YtponmfnegdlppaaDoorW.PrintLast Go.Proofs.YtponmfnegdlppaaDoorW.PrintMore
set_option linter.unusedVariables false
set_option linter.unusedSimpArgs false

theorem C_one (W : World) (k b : Int) : Kd.C k29 (W.alloc (.cells #[.int .i64 k, .int .i64 b] 29)) (some ⟨W.heap.size, 0, none⟩) 1 [⟨k, b⟩] := by
  have h : Kd.R k29 29 (W.alloc (.cells #[.int .i64 k, .int .i64 b] 29)) W.heap.size (fun _ => True) (.slice (some ⟨W.heap.size, 0, none⟩) 1 1) [⟨k, b⟩] :=
    ⟨fun _ _ => trivial, [.int .i64 k, .int .i64 b], World.ownsRow_lit (base := W.heap.size) (e := 29) (size := k29.sz) W #[.int .i64 k, .int .i64 b] 1 (Nat.le_refl _) (by simp [maxLen]) (by rfl), Reps.c2 (k29_mkM _ _ _ ⟨k, b⟩) (Reps.none _ _)⟩
  exact (Kd.R_reads' h).2.2
/-- the three blocks that a call over a book and a task lays first -/
structure lays3 (w W3 : World) (t : Int) (u0 u1 : Value) (fl : Bool) (k b : Int) : Prop where
  q0 : Below w.heap.size w W3
  q1 : W3.heap.size = w.heap.size + 3
  q2 : bookAt W3 w.heap.size t u0 u1 fl
  q3 : W3.heap[w.heap.size + 1]? = some (.cells #[.int .i64 k, .int .i64 b] 29 (0, 0))
  q4 : W3.heap[w.heap.size + 1 + 1]? = some (.cells #[.int .i64 0, .slice none 0 0, .slice none 0 0, .bool false] 24 (0, 0))
def w3of (w : World) (t : Int) (u0 u1 : Value) (fl : Bool) (k b : Int) : World := ((w.alloc (.cells #[.int .i64 t, u0, u1, .bool fl] 24)).alloc (.cells #[.int .i64 k, .int .i64 b] 29)).alloc (.cells #[.int .i64 0, .slice none 0 0, .slice none 0 0, .bool false] 24)
theorem lays3_of (w : World) (t : Int) (u0 u1 : Value) (fl : Bool) (k b : Int) : lays3 w (w3of w t u0 u1 fl k b) t u0 u1 fl k b := by
  unfold w3of
  refine ⟨below_alloc (below_alloc (below_alloc (Below.refl _ _) _) _) _, by simp, ?_, ?_, ?_⟩
  · have e1 := heap_alloc_new w (.cells #[.int .i64 t, u0, u1, .bool fl] 24)
    exact ((below_alloc (below_alloc (Below.refl _ _) _) _).block w.heap.size (by simp)).trans e1
  · have e1 := heap_alloc_new (w.alloc (.cells #[.int .i64 t, u0, u1, .bool fl] 24)) (.cells #[.int .i64 k, .int .i64 b] 29)
    rw [show (w.alloc (.cells #[.int .i64 t, u0, u1, .bool fl] 24)).heap.size = w.heap.size + 1 from by simp] at e1
    exact ((below_alloc (Below.refl _ _) _).block (w.heap.size + 1) (by simp)).trans e1
  · have e1 := heap_alloc_new ((w.alloc (.cells #[.int .i64 t, u0, u1, .bool fl] 24)).alloc (.cells #[.int .i64 k, .int .i64 b] 29)) (.cells #[.int .i64 0, .slice none 0 0, .slice none 0 0, .bool false] 24)
    rw [show ((w.alloc (.cells #[.int .i64 t, u0, u1, .bool fl] 24)).alloc (.cells #[.int .i64 k, .int .i64 b] 29)).heap.size = w.heap.size + 1 + 1 from by simp] at e1
    exact e1
theorem lays3.below {w W3 W : World} {t : Int} {u0 u1 : Value} {fl : Bool} {k b : Int} (h : lays3 w W3 t u0 u1 fl k b) (hb : Below W3.heap.size W3 W) :
    bookAt W w.heap.size t u0 u1 fl ∧ W.heap[w.heap.size + 1]? = some (.cells #[.int .i64 k, .int .i64 b] 29 (0, 0)) ∧ W.heap[w.heap.size + 1 + 1]? = some (.cells #[.int .i64 0, .slice none 0 0, .slice none 0 0, .bool false] 24 (0, 0)) ∧ Below w.heap.size w W ∧ w.heap.size + 3 ≤ W.heap.size :=
  ⟨h.q2.below hb h.q2.lt, (hb.block _ (by have := h.q1; omega)).trans h.q3, (hb.block _ (by have := h.q1; omega)).trans h.q4, below_step h.q0 hb, by have := hb.size; have := h.q1; omega⟩

set_option maxHeartbeats 4000000 in
set_option maxRecDepth 100000 in
theorem ended_bad (fid : Nat) (cap : Array Value) (hE : Enters Tryd.prog fid) (t : Int) (fl : Bool) (A0 : Option Addr) (c0 : Nat) (l0 : List S38) (A1 : Option Addr) (c1 : Nat) (l1 : List S38) (k b : Int) (w : World)
    (h0 : Kd.C k38 w A0 l0.length l0) (h1 : Kd.C k38 w A1 l1.length l1) (hl0 : l0.length ≤ 6000000000000) (hl1 : l1.length ≤ 6000000000000) (hT : Tab w) (e : Int) (he : knownP t l0 l1 fl [⟨k, b⟩] = e) (hne : e ≠ 0) :
    Calls Tryd.prog 45 #[.agg #[.int .i64 t, .slice A0 l0.length c0, .slice A1 l1.length c1, .bool fl], .agg #[.int .i64 k, .int .i64 b], .func (.func fid) #[] cap] w fun e_ w' => e_ = .returned (.tuple #[.agg #[.int .i64 0, .slice none 0 0, .slice none 0 0, .bool false], .int .i64 e]) ∧ Below w.heap.size w w' := by
  have hl3 := lays3_of w t (.slice A0 l0.length c0) (.slice A1 l1.length c1) fl k b
  have hba : Below w.heap.size w ((w3of w t (.slice A0 l0.length c0) (.slice A1 l1.length c1) fl k b).alloc (.cells #[.int .i64 k, .int .i64 b] 29)) := below_alloc hl3.q0 _
  have hkn := known_any t fl A0 c0 l0 A1 c1 l1 (some ⟨(w3of w t (.slice A0 l0.length c0) (.slice A1 l1.length c1) fl k b).heap.size, 0, none⟩) 1 [⟨k, b⟩] ((w3of w t (.slice A0 l0.length c0) (.slice A1 l1.length c1) fl k b).alloc (.cells #[.int .i64 k, .int .i64 b] 29)) (Kd.C_below h0 hba) (Kd.C_below h1 hba) (C_one (w3of w t (.slice A0 l0.length c0) (.slice A1 l1.length c1) fl k b) k b) (by simp) hl0 hl1 (hT.below hba)
  rw [he] at hkn
  have H0 := Aside0.mk h0
  have H1 := Aside0.mk h1
  obtain ⟨W3, hW3⟩ : ∃ W3, (w3of w t (.slice A0 l0.length c0) (.slice A1 l1.length c1) fl k b) = W3 := ⟨_, rfl⟩
  rw [hW3] at hl3 hba hkn
  unfold w3of at hW3
  have HW3 := Aside0.mk hW3
  have HL := Aside0.mk hl3
  have HKN := Aside0.mk hkn
  have ha := below_alloc (Below.refl W3.heap.size W3) (.cells #[.int .i64 k, .int .i64 b] 29)
  have HBA := Aside0.mk ha
  clear hba hkn h0 h1 he hl3 hT hl0 hl1 ha hW3
  have hu22 := Tryd.underlying22
  have hu29 := Tryd.underlying29
  have hu24 := Tryd.underlying24
  have hu38 := Tryd.underlying38
  have hu26 := Tryd.underlying26
  have hz0 := HL.out.q2.c0
  have hz1 := HL.out.q2.c1
  have hz2 := HL.out.q2.c2
  have hz3 := HL.out.q2.c3
  have hy0 : W3.cell? ⟨w.heap.size + 1, 0, none⟩ = some (.int .i64 k) := (blk_cell HL.out.q3 0).trans rfl
  have hy1 : W3.cell? ⟨w.heap.size + 1, 1, none⟩ = some (.int .i64 b) := (blk_cell HL.out.q3 1).trans rfl
  go_enter Tryd.func45, Tryd.ntmps45
  go_upto_region 1 with (fail)
  rw [HW3.out]
  clear HW3
  have hn1 : (e != 0) = true := bne_iff_ne.2 hne
  clear hne
  go_wp2_with (go_at_call 54; go_must (refine HKN.out.mono ?_; rintro e_ W4 ⟨rfl, hB4⟩; have HF := Aside0.mk (HL.out.below (below_step HBA.out hB4)); clear hB4 HL HKN HBA hz0 hz1 hz2 hz3 hy0 hy1; have hx3 := HF.out.1.c3; have hc0 : W4.cell? ⟨w.heap.size + 1 + 1, 0, none⟩ = some (.int .i64 0) := (blk_cell HF.out.2.2.1 0).trans rfl; have hc1 : W4.cell? ⟨w.heap.size + 1 + 1, 1, none⟩ = some (.slice none 0 0) := (blk_cell HF.out.2.2.1 1).trans rfl; have hc2 : W4.cell? ⟨w.heap.size + 1 + 1, 2, none⟩ = some (.slice none 0 0) := (blk_cell HF.out.2.2.1 2).trans rfl; have hc3 : W4.cell? ⟨w.heap.size + 1 + 1, 3, none⟩ = some (.bool false) := (blk_cell HF.out.2.2.1 3).trans rfl; have hf0 : W4.frozen? ⟨w.heap.size + 1 + 1, 0, none⟩ = false := frozen_of_row _ _ _ _ _ HF.out.2.2.1; have hf1 : W4.frozen? ⟨w.heap.size + 1 + 1, 1, none⟩ = false := frozen_of_row _ _ _ _ _ HF.out.2.2.1; have hf2 : W4.frozen? ⟨w.heap.size + 1 + 1, 2, none⟩ = false := frozen_of_row _ _ _ _ _ HF.out.2.2.1; have hf3 : W4.frozen? ⟨w.heap.size + 1 + 1, 3, none⟩ = false := frozen_of_row _ _ _ _ _ HF.out.2.2.1))
  refine bodyPost_ret (results_ct rfl _ _ (w.heap.size + 1 + 1) 24 #[.int .i64 0, .slice none 0 0, .slice none 0 0, .bool false] (0, 0) _ rfl (by refine blk_put (cs := #[.int .i64 0, .slice none 0 0, .slice none 0 0, .bool false]) ?_ 3 _ rfl; refine blk_put (cs := #[.int .i64 0, .slice none 0 0, .slice none 0 0, .bool false]) ?_ 2 _ rfl; refine blk_put (cs := #[.int .i64 0, .slice none 0 0, .slice none 0 0, .bool false]) ?_ 1 _ rfl; refine blk_put (cs := #[.int .i64 0, .slice none 0 0, .slice none 0 0, .bool false]) ?_ 0 _ rfl; exact HF.out.2.2.1) Tryd.underlying24 rfl (by kernel_rfl)) rfl ?_
  exact ⟨rfl, (((HF.out.2.2.2.1.setCell (by simp; omega) _).setCell (by simp; omega) _).setCell (by simp; omega) _).setCell (by simp; omega) _⟩

set_option maxHeartbeats 4000000 in
set_option maxRecDepth 100000 in
theorem ended_failed_map (fid : Nat) (cap : Array Value) (hE : Enters Tryd.prog fid) (t : Int) (fl : Bool) (A0 : Option Addr) (c0 : Nat) (l0 : List S38) (A1 : Option Addr) (c1 : Nat) (l1 : List S38) (b : Nat) (w : World)
    (h0 : Kd.C k38 w A0 l0.length l0) (h1 : Kd.C k38 w A1 l1.length l1) (hl0 : l0.length ≤ 6000000000000) (hl1 : l1.length ≤ 6000000000000) (hT : Tab w) (he : knownP t l0 l1 fl [⟨0, b⟩] = 0) (hfl : fl = true) :
    Calls Tryd.prog 45 #[.agg #[.int .i64 t, .slice A0 l0.length c0, .slice A1 l1.length c1, .bool fl], .agg #[.int .i64 0, .int .i64 b], .func (.func fid) #[] cap] w fun e_ w' => e_ = .returned (.tuple #[.agg #[.int .i64 0, .slice none 0 0, .slice none 0 0, .bool false], .int .i64 192]) ∧ Below w.heap.size w w' := by
  subst hfl
  have hl3 := lays3_of w t (.slice A0 l0.length c0) (.slice A1 l1.length c1) true 0 b
  have hba : Below w.heap.size w ((w3of w t (.slice A0 l0.length c0) (.slice A1 l1.length c1) true 0 b).alloc (.cells #[.int .i64 0, .int .i64 b] 29)) := below_alloc hl3.q0 _
  have hkn := known_any t true A0 c0 l0 A1 c1 l1 (some ⟨(w3of w t (.slice A0 l0.length c0) (.slice A1 l1.length c1) true 0 b).heap.size, 0, none⟩) 1 [⟨0, b⟩] ((w3of w t (.slice A0 l0.length c0) (.slice A1 l1.length c1) true 0 b).alloc (.cells #[.int .i64 0, .int .i64 b] 29)) (Kd.C_below h0 hba) (Kd.C_below h1 hba) (C_one (w3of w t (.slice A0 l0.length c0) (.slice A1 l1.length c1) true 0 b) 0 b) (by simp) hl0 hl1 (hT.below hba)
  rw [he] at hkn
  have H0 := Aside0.mk h0
  have H1 := Aside0.mk h1
  obtain ⟨W3, hW3⟩ : ∃ W3, (w3of w t (.slice A0 l0.length c0) (.slice A1 l1.length c1) true 0 b) = W3 := ⟨_, rfl⟩
  rw [hW3] at hl3 hba hkn
  unfold w3of at hW3
  have HW3 := Aside0.mk hW3
  have HL := Aside0.mk hl3
  have HKN := Aside0.mk hkn
  have ha := below_alloc (Below.refl W3.heap.size W3) (.cells #[.int .i64 0, .int .i64 b] 29)
  have HBA := Aside0.mk ha
  clear hba hkn h0 h1 he hl3 hT hl0 hl1 ha hW3
  have hu22 := Tryd.underlying22
  have hu29 := Tryd.underlying29
  have hu24 := Tryd.underlying24
  have hu38 := Tryd.underlying38
  have hu26 := Tryd.underlying26
  have hz0 := HL.out.q2.c0
  have hz1 := HL.out.q2.c1
  have hz2 := HL.out.q2.c2
  have hz3 := HL.out.q2.c3
  have hy0 : W3.cell? ⟨w.heap.size + 1, 0, none⟩ = some (.int .i64 0) := (blk_cell HL.out.q3 0).trans rfl
  have hy1 : W3.cell? ⟨w.heap.size + 1, 1, none⟩ = some (.int .i64 b) := (blk_cell HL.out.q3 1).trans rfl
  go_enter Tryd.func45, Tryd.ntmps45
  go_upto_region 1 with (fail)
  rw [HW3.out]
  clear HW3
  go_wp2_with (go_at_call 54; go_must (refine HKN.out.mono ?_; rintro e_ W4 ⟨rfl, hB4⟩; have HF := Aside0.mk (HL.out.below (below_step HBA.out hB4)); clear hB4 HL HKN HBA hz0 hz1 hz2 hz3 hy0 hy1; have hx3 := HF.out.1.c3; have hc0 : W4.cell? ⟨w.heap.size + 1 + 1, 0, none⟩ = some (.int .i64 0) := (blk_cell HF.out.2.2.1 0).trans rfl; have hc1 : W4.cell? ⟨w.heap.size + 1 + 1, 1, none⟩ = some (.slice none 0 0) := (blk_cell HF.out.2.2.1 1).trans rfl; have hc2 : W4.cell? ⟨w.heap.size + 1 + 1, 2, none⟩ = some (.slice none 0 0) := (blk_cell HF.out.2.2.1 2).trans rfl; have hc3 : W4.cell? ⟨w.heap.size + 1 + 1, 3, none⟩ = some (.bool false) := (blk_cell HF.out.2.2.1 3).trans rfl; have hf0 : W4.frozen? ⟨w.heap.size + 1 + 1, 0, none⟩ = false := frozen_of_row _ _ _ _ _ HF.out.2.2.1; have hf1 : W4.frozen? ⟨w.heap.size + 1 + 1, 1, none⟩ = false := frozen_of_row _ _ _ _ _ HF.out.2.2.1; have hf2 : W4.frozen? ⟨w.heap.size + 1 + 1, 2, none⟩ = false := frozen_of_row _ _ _ _ _ HF.out.2.2.1; have hf3 : W4.frozen? ⟨w.heap.size + 1 + 1, 3, none⟩ = false := frozen_of_row _ _ _ _ _ HF.out.2.2.1))
  refine bodyPost_ret (results_ct rfl _ _ (w.heap.size + 1 + 1) 24 #[.int .i64 0, .slice none 0 0, .slice none 0 0, .bool false] (0, 0) _ rfl (by refine blk_put (cs := #[.int .i64 0, .slice none 0 0, .slice none 0 0, .bool false]) ?_ 3 _ rfl; refine blk_put (cs := #[.int .i64 0, .slice none 0 0, .slice none 0 0, .bool false]) ?_ 2 _ rfl; refine blk_put (cs := #[.int .i64 0, .slice none 0 0, .slice none 0 0, .bool false]) ?_ 1 _ rfl; refine blk_put (cs := #[.int .i64 0, .slice none 0 0, .slice none 0 0, .bool false]) ?_ 0 _ rfl; exact HF.out.2.2.1) Tryd.underlying24 rfl (by kernel_rfl)) rfl ?_
  exact ⟨rfl, (((HF.out.2.2.2.1.setCell (by simp; omega) _).setCell (by simp; omega) _).setCell (by simp; omega) _).setCell (by simp; omega) _⟩

set_option maxHeartbeats 4000000 in
set_option maxRecDepth 100000 in
theorem ended_failed_red (fid : Nat) (cap : Array Value) (hE : Enters Tryd.prog fid) (t : Int) (fl : Bool) (A0 : Option Addr) (c0 : Nat) (l0 : List S38) (A1 : Option Addr) (c1 : Nat) (l1 : List S38) (b : Nat) (w : World)
    (h0 : Kd.C k38 w A0 l0.length l0) (h1 : Kd.C k38 w A1 l1.length l1) (hl0 : l0.length ≤ 6000000000000) (hl1 : l1.length ≤ 6000000000000) (hT : Tab w) (he : knownP t l0 l1 fl [⟨1, b⟩] = 0) (hfl : fl = true) :
    Calls Tryd.prog 45 #[.agg #[.int .i64 t, .slice A0 l0.length c0, .slice A1 l1.length c1, .bool fl], .agg #[.int .i64 1, .int .i64 b], .func (.func fid) #[] cap] w fun e_ w' => e_ = .returned (.tuple #[.agg #[.int .i64 0, .slice none 0 0, .slice none 0 0, .bool false], .int .i64 192]) ∧ Below w.heap.size w w' := by
  subst hfl
  have hl3 := lays3_of w t (.slice A0 l0.length c0) (.slice A1 l1.length c1) true 1 b
  have hba : Below w.heap.size w ((w3of w t (.slice A0 l0.length c0) (.slice A1 l1.length c1) true 1 b).alloc (.cells #[.int .i64 1, .int .i64 b] 29)) := below_alloc hl3.q0 _
  have hkn := known_any t true A0 c0 l0 A1 c1 l1 (some ⟨(w3of w t (.slice A0 l0.length c0) (.slice A1 l1.length c1) true 1 b).heap.size, 0, none⟩) 1 [⟨1, b⟩] ((w3of w t (.slice A0 l0.length c0) (.slice A1 l1.length c1) true 1 b).alloc (.cells #[.int .i64 1, .int .i64 b] 29)) (Kd.C_below h0 hba) (Kd.C_below h1 hba) (C_one (w3of w t (.slice A0 l0.length c0) (.slice A1 l1.length c1) true 1 b) 1 b) (by simp) hl0 hl1 (hT.below hba)
  rw [he] at hkn
  have H0 := Aside0.mk h0
  have H1 := Aside0.mk h1
  obtain ⟨W3, hW3⟩ : ∃ W3, (w3of w t (.slice A0 l0.length c0) (.slice A1 l1.length c1) true 1 b) = W3 := ⟨_, rfl⟩
  rw [hW3] at hl3 hba hkn
  unfold w3of at hW3
  have HW3 := Aside0.mk hW3
  have HL := Aside0.mk hl3
  have HKN := Aside0.mk hkn
  have ha := below_alloc (Below.refl W3.heap.size W3) (.cells #[.int .i64 1, .int .i64 b] 29)
  have HBA := Aside0.mk ha
  clear hba hkn h0 h1 he hl3 hT hl0 hl1 ha hW3
  have hu22 := Tryd.underlying22
  have hu29 := Tryd.underlying29
  have hu24 := Tryd.underlying24
  have hu38 := Tryd.underlying38
  have hu26 := Tryd.underlying26
  have hz0 := HL.out.q2.c0
  have hz1 := HL.out.q2.c1
  have hz2 := HL.out.q2.c2
  have hz3 := HL.out.q2.c3
  have hy0 : W3.cell? ⟨w.heap.size + 1, 0, none⟩ = some (.int .i64 1) := (blk_cell HL.out.q3 0).trans rfl
  have hy1 : W3.cell? ⟨w.heap.size + 1, 1, none⟩ = some (.int .i64 b) := (blk_cell HL.out.q3 1).trans rfl
  go_enter Tryd.func45, Tryd.ntmps45
  go_upto_region 1 with (fail)
  rw [HW3.out]
  clear HW3
  go_wp2_with (go_at_call 54; go_must (refine HKN.out.mono ?_; rintro e_ W4 ⟨rfl, hB4⟩; have HF := Aside0.mk (HL.out.below (below_step HBA.out hB4)); clear hB4 HL HKN HBA hz0 hz1 hz2 hz3 hy0 hy1; have hx3 := HF.out.1.c3; have hc0 : W4.cell? ⟨w.heap.size + 1 + 1, 0, none⟩ = some (.int .i64 0) := (blk_cell HF.out.2.2.1 0).trans rfl; have hc1 : W4.cell? ⟨w.heap.size + 1 + 1, 1, none⟩ = some (.slice none 0 0) := (blk_cell HF.out.2.2.1 1).trans rfl; have hc2 : W4.cell? ⟨w.heap.size + 1 + 1, 2, none⟩ = some (.slice none 0 0) := (blk_cell HF.out.2.2.1 2).trans rfl; have hc3 : W4.cell? ⟨w.heap.size + 1 + 1, 3, none⟩ = some (.bool false) := (blk_cell HF.out.2.2.1 3).trans rfl; have hf0 : W4.frozen? ⟨w.heap.size + 1 + 1, 0, none⟩ = false := frozen_of_row _ _ _ _ _ HF.out.2.2.1; have hf1 : W4.frozen? ⟨w.heap.size + 1 + 1, 1, none⟩ = false := frozen_of_row _ _ _ _ _ HF.out.2.2.1; have hf2 : W4.frozen? ⟨w.heap.size + 1 + 1, 2, none⟩ = false := frozen_of_row _ _ _ _ _ HF.out.2.2.1; have hf3 : W4.frozen? ⟨w.heap.size + 1 + 1, 3, none⟩ = false := frozen_of_row _ _ _ _ _ HF.out.2.2.1))
  refine bodyPost_ret (results_ct rfl _ _ (w.heap.size + 1 + 1) 24 #[.int .i64 0, .slice none 0 0, .slice none 0 0, .bool false] (0, 0) _ rfl (by refine blk_put (cs := #[.int .i64 0, .slice none 0 0, .slice none 0 0, .bool false]) ?_ 3 _ rfl; refine blk_put (cs := #[.int .i64 0, .slice none 0 0, .slice none 0 0, .bool false]) ?_ 2 _ rfl; refine blk_put (cs := #[.int .i64 0, .slice none 0 0, .slice none 0 0, .bool false]) ?_ 1 _ rfl; refine blk_put (cs := #[.int .i64 0, .slice none 0 0, .slice none 0 0, .bool false]) ?_ 0 _ rfl; exact HF.out.2.2.1) Tryd.underlying24 rfl (by kernel_rfl)) rfl ?_
  exact ⟨rfl, (((HF.out.2.2.2.1.setCell (by simp; omega) _).setCell (by simp; omega) _).setCell (by simp; omega) _).setCell (by simp; omega) _⟩

set_option maxHeartbeats 4000000 in
set_option maxRecDepth 100000 in
theorem ended_wait_map (fid : Nat) (cap : Array Value) (hE : Enters Tryd.prog fid) (t : Int) (fl : Bool) (A0 : Option Addr) (c0 : Nat) (l0 : List S38) (A1 : Option Addr) (c1 : Nat) (l1 : List S38) (b : Nat) (w : World)
    (h0 : Kd.C k38 w A0 l0.length l0) (h1 : Kd.C k38 w A1 l1.length l1) (hl0 : l0.length ≤ 6000000000000) (hl1 : l1.length ≤ 6000000000000) (hT : Tab w) (he : knownP t l0 l1 fl [⟨0, b⟩] = 0) (hfl : fl = false) (hb : b < l0.length) (hst : (rd_T38 l0 (b : Int)).f0 ≠ 1) :
    Calls Tryd.prog 45 #[.agg #[.int .i64 t, .slice A0 l0.length c0, .slice A1 l1.length c1, .bool fl], .agg #[.int .i64 0, .int .i64 b], .func (.func fid) #[] cap] w fun e_ w' => e_ = .returned (.tuple #[.agg #[.int .i64 0, .slice none 0 0, .slice none 0 0, .bool false], .int .i64 192]) ∧ Below w.heap.size w w' := by
  subst hfl
  have hl3 := lays3_of w t (.slice A0 l0.length c0) (.slice A1 l1.length c1) false 0 b
  have hba : Below w.heap.size w ((w3of w t (.slice A0 l0.length c0) (.slice A1 l1.length c1) false 0 b).alloc (.cells #[.int .i64 0, .int .i64 b] 29)) := below_alloc hl3.q0 _
  have hkn := known_any t false A0 c0 l0 A1 c1 l1 (some ⟨(w3of w t (.slice A0 l0.length c0) (.slice A1 l1.length c1) false 0 b).heap.size, 0, none⟩) 1 [⟨0, b⟩] ((w3of w t (.slice A0 l0.length c0) (.slice A1 l1.length c1) false 0 b).alloc (.cells #[.int .i64 0, .int .i64 b] 29)) (Kd.C_below h0 hba) (Kd.C_below h1 hba) (C_one (w3of w t (.slice A0 l0.length c0) (.slice A1 l1.length c1) false 0 b) 0 b) (by simp) hl0 hl1 (hT.below hba)
  rw [he] at hkn
  have H0 := Aside0.mk h0
  have H1 := Aside0.mk h1
  obtain ⟨W3, hW3⟩ : ∃ W3, (w3of w t (.slice A0 l0.length c0) (.slice A1 l1.length c1) false 0 b) = W3 := ⟨_, rfl⟩
  rw [hW3] at hl3 hba hkn
  unfold w3of at hW3
  have HW3 := Aside0.mk hW3
  have HL := Aside0.mk hl3
  have HKN := Aside0.mk hkn
  have ha := below_alloc (Below.refl W3.heap.size W3) (.cells #[.int .i64 0, .int .i64 b] 29)
  have HBA := Aside0.mk ha
  clear hba hkn h0 h1 he hl3 hT hl0 hl1 ha hW3
  have hu22 := Tryd.underlying22
  have hu29 := Tryd.underlying29
  have hu24 := Tryd.underlying24
  have hu38 := Tryd.underlying38
  have hu26 := Tryd.underlying26
  have hz0 := HL.out.q2.c0
  have hz1 := HL.out.q2.c1
  have hz2 := HL.out.q2.c2
  have hz3 := HL.out.q2.c3
  have hy0 : W3.cell? ⟨w.heap.size + 1, 0, none⟩ = some (.int .i64 0) := (blk_cell HL.out.q3 0).trans rfl
  have hy1 : W3.cell? ⟨w.heap.size + 1, 1, none⟩ = some (.int .i64 b) := (blk_cell HL.out.q3 1).trans rfl
  go_enter Tryd.func45, Tryd.ntmps45
  go_upto_region 1 with (fail)
  rw [HW3.out]
  clear HW3
  obtain ⟨ad, ea, hx0, _, _⟩ := at_T38 H0.out (b : Int) (by omega) (by omega)
  subst ea
  rw [Int.toNat_natCast] at hx0
  have HX0 := Aside0.mk hx0
  clear hx0
  generalize (rd_T38 l0 (b : Int)).f0 = st at hst HX0
  have hst1 : (st != 1) = true := bne_iff_ne.2 hst
  clear hst
  have HBI := Aside0.mk hb
  clear hb
  go_wp2_with (first | (go_at_call 54; go_must (refine HKN.out.mono ?_; rintro e_ W4 ⟨rfl, hB4⟩; have HF := Aside0.mk (HL.out.below (below_step HBA.out hB4)); clear hB4 HL HKN HBA hz0 hz1 hz2 hz3 hy0 hy1; have hx3 := HF.out.1.c3; have hv0 : W4.cell? ⟨w.heap.size + 1, 0, none⟩ = some (.int .i64 0) := (blk_cell HF.out.2.1 0).trans rfl; have hv1 : W4.cell? ⟨w.heap.size + 1, 1, none⟩ = some (.int .i64 b) := (blk_cell HF.out.2.1 1).trans rfl)) | (go_at_call 55; go_must (refine (state_map W4 w.heap.size t ad _ _ _ false b HF.out.1 (by omega) (by have := HBI.out; omega)).mono ?_; rintro e_ W5 ⟨rfl, hB5⟩; have HG := Aside0.mk (show bookAt W5 w.heap.size t _ _ false ∧ W5.heap[w.heap.size + 1]? = some (.cells #[.int .i64 0, .int .i64 b] 29 (0, 0)) ∧ W5.heap[w.heap.size + 1 + 1]? = some (.cells #[.int .i64 0, .slice none 0 0, .slice none 0 0, .bool false] 24 (0, 0)) ∧ Below w.heap.size w W5 ∧ w.heap.size + 3 ≤ W5.heap.size from ⟨HF.out.1.below hB5 HF.out.1.lt, (hB5.block _ (by have := HF.out.2.2.2.2; omega)).trans HF.out.2.1, (hB5.block _ (by have := HF.out.2.2.2.2; omega)).trans HF.out.2.2.1, below_step HF.out.2.2.2.1 hB5, by have := hB5.size; have := HF.out.2.2.2.2; omega⟩); clear hB5 HF hx3 hv0 hv1; have hx0 := (HG.out.2.2.2.1.cell (World.block_lt_of_cell? w _ HX0.out)).trans HX0.out; have hc0 : W5.cell? ⟨w.heap.size + 1 + 1, 0, none⟩ = some (.int .i64 0) := (blk_cell HG.out.2.2.1 0).trans rfl; have hc1 : W5.cell? ⟨w.heap.size + 1 + 1, 1, none⟩ = some (.slice none 0 0) := (blk_cell HG.out.2.2.1 1).trans rfl; have hc2 : W5.cell? ⟨w.heap.size + 1 + 1, 2, none⟩ = some (.slice none 0 0) := (blk_cell HG.out.2.2.1 2).trans rfl; have hc3 : W5.cell? ⟨w.heap.size + 1 + 1, 3, none⟩ = some (.bool false) := (blk_cell HG.out.2.2.1 3).trans rfl; have hf0 : W5.frozen? ⟨w.heap.size + 1 + 1, 0, none⟩ = false := frozen_of_row _ _ _ _ _ HG.out.2.2.1; have hf1 : W5.frozen? ⟨w.heap.size + 1 + 1, 1, none⟩ = false := frozen_of_row _ _ _ _ _ HG.out.2.2.1; have hf2 : W5.frozen? ⟨w.heap.size + 1 + 1, 2, none⟩ = false := frozen_of_row _ _ _ _ _ HG.out.2.2.1; have hf3 : W5.frozen? ⟨w.heap.size + 1 + 1, 3, none⟩ = false := frozen_of_row _ _ _ _ _ HG.out.2.2.1)))
  refine bodyPost_ret (results_ct rfl _ _ (w.heap.size + 1 + 1) 24 #[.int .i64 0, .slice none 0 0, .slice none 0 0, .bool false] (0, 0) _ rfl (by refine blk_put (cs := #[.int .i64 0, .slice none 0 0, .slice none 0 0, .bool false]) ?_ 3 _ rfl; refine blk_put (cs := #[.int .i64 0, .slice none 0 0, .slice none 0 0, .bool false]) ?_ 2 _ rfl; refine blk_put (cs := #[.int .i64 0, .slice none 0 0, .slice none 0 0, .bool false]) ?_ 1 _ rfl; refine blk_put (cs := #[.int .i64 0, .slice none 0 0, .slice none 0 0, .bool false]) ?_ 0 _ rfl; exact HG.out.2.2.1) Tryd.underlying24 rfl (by kernel_rfl)) rfl ?_
  exact ⟨rfl, (((HG.out.2.2.2.1.setCell (by simp; omega) _).setCell (by simp; omega) _).setCell (by simp; omega) _).setCell (by simp; omega) _⟩

set_option maxHeartbeats 4000000 in
set_option maxRecDepth 100000 in
theorem ended_wait_red (fid : Nat) (cap : Array Value) (hE : Enters Tryd.prog fid) (t : Int) (fl : Bool) (A0 : Option Addr) (c0 : Nat) (l0 : List S38) (A1 : Option Addr) (c1 : Nat) (l1 : List S38) (b : Nat) (w : World)
    (h0 : Kd.C k38 w A0 l0.length l0) (h1 : Kd.C k38 w A1 l1.length l1) (hl0 : l0.length ≤ 6000000000000) (hl1 : l1.length ≤ 6000000000000) (hT : Tab w) (he : knownP t l0 l1 fl [⟨1, b⟩] = 0) (hfl : fl = false) (hb : b < l1.length) (hst : (rd_T38 l1 (b : Int)).f0 ≠ 1) :
    Calls Tryd.prog 45 #[.agg #[.int .i64 t, .slice A0 l0.length c0, .slice A1 l1.length c1, .bool fl], .agg #[.int .i64 1, .int .i64 b], .func (.func fid) #[] cap] w fun e_ w' => e_ = .returned (.tuple #[.agg #[.int .i64 0, .slice none 0 0, .slice none 0 0, .bool false], .int .i64 192]) ∧ Below w.heap.size w w' := by
  subst hfl
  have hl3 := lays3_of w t (.slice A0 l0.length c0) (.slice A1 l1.length c1) false 1 b
  have hba : Below w.heap.size w ((w3of w t (.slice A0 l0.length c0) (.slice A1 l1.length c1) false 1 b).alloc (.cells #[.int .i64 1, .int .i64 b] 29)) := below_alloc hl3.q0 _
  have hkn := known_any t false A0 c0 l0 A1 c1 l1 (some ⟨(w3of w t (.slice A0 l0.length c0) (.slice A1 l1.length c1) false 1 b).heap.size, 0, none⟩) 1 [⟨1, b⟩] ((w3of w t (.slice A0 l0.length c0) (.slice A1 l1.length c1) false 1 b).alloc (.cells #[.int .i64 1, .int .i64 b] 29)) (Kd.C_below h0 hba) (Kd.C_below h1 hba) (C_one (w3of w t (.slice A0 l0.length c0) (.slice A1 l1.length c1) false 1 b) 1 b) (by simp) hl0 hl1 (hT.below hba)
  rw [he] at hkn
  have H0 := Aside0.mk h0
  have H1 := Aside0.mk h1
  obtain ⟨W3, hW3⟩ : ∃ W3, (w3of w t (.slice A0 l0.length c0) (.slice A1 l1.length c1) false 1 b) = W3 := ⟨_, rfl⟩
  rw [hW3] at hl3 hba hkn
  unfold w3of at hW3
  have HW3 := Aside0.mk hW3
  have HL := Aside0.mk hl3
  have HKN := Aside0.mk hkn
  have ha := below_alloc (Below.refl W3.heap.size W3) (.cells #[.int .i64 1, .int .i64 b] 29)
  have HBA := Aside0.mk ha
  clear hba hkn h0 h1 he hl3 hT hl0 hl1 ha hW3
  have hu22 := Tryd.underlying22
  have hu29 := Tryd.underlying29
  have hu24 := Tryd.underlying24
  have hu38 := Tryd.underlying38
  have hu26 := Tryd.underlying26
  have hz0 := HL.out.q2.c0
  have hz1 := HL.out.q2.c1
  have hz2 := HL.out.q2.c2
  have hz3 := HL.out.q2.c3
  have hy0 : W3.cell? ⟨w.heap.size + 1, 0, none⟩ = some (.int .i64 1) := (blk_cell HL.out.q3 0).trans rfl
  have hy1 : W3.cell? ⟨w.heap.size + 1, 1, none⟩ = some (.int .i64 b) := (blk_cell HL.out.q3 1).trans rfl
  go_enter Tryd.func45, Tryd.ntmps45
  go_upto_region 1 with (fail)
  rw [HW3.out]
  clear HW3
  obtain ⟨ad, ea, hx0, _, _⟩ := at_T38 H1.out (b : Int) (by omega) (by omega)
  subst ea
  rw [Int.toNat_natCast] at hx0
  have HX0 := Aside0.mk hx0
  clear hx0
  generalize (rd_T38 l1 (b : Int)).f0 = st at hst HX0
  have hst1 : (st != 1) = true := bne_iff_ne.2 hst
  clear hst
  have HBI := Aside0.mk hb
  clear hb
  go_wp2_with (first | (go_at_call 54; go_must (refine HKN.out.mono ?_; rintro e_ W4 ⟨rfl, hB4⟩; have HF := Aside0.mk (HL.out.below (below_step HBA.out hB4)); clear hB4 HL HKN HBA hz0 hz1 hz2 hz3 hy0 hy1; have hx3 := HF.out.1.c3; have hv0 : W4.cell? ⟨w.heap.size + 1, 0, none⟩ = some (.int .i64 1) := (blk_cell HF.out.2.1 0).trans rfl; have hv1 : W4.cell? ⟨w.heap.size + 1, 1, none⟩ = some (.int .i64 b) := (blk_cell HF.out.2.1 1).trans rfl)) | (go_at_call 55; go_must (refine (state_red W4 w.heap.size t ad _ _ _ false b HF.out.1 (by omega) (by have := HBI.out; omega)).mono ?_; rintro e_ W5 ⟨rfl, hB5⟩; have HG := Aside0.mk (show bookAt W5 w.heap.size t _ _ false ∧ W5.heap[w.heap.size + 1]? = some (.cells #[.int .i64 1, .int .i64 b] 29 (0, 0)) ∧ W5.heap[w.heap.size + 1 + 1]? = some (.cells #[.int .i64 0, .slice none 0 0, .slice none 0 0, .bool false] 24 (0, 0)) ∧ Below w.heap.size w W5 ∧ w.heap.size + 3 ≤ W5.heap.size from ⟨HF.out.1.below hB5 HF.out.1.lt, (hB5.block _ (by have := HF.out.2.2.2.2; omega)).trans HF.out.2.1, (hB5.block _ (by have := HF.out.2.2.2.2; omega)).trans HF.out.2.2.1, below_step HF.out.2.2.2.1 hB5, by have := hB5.size; have := HF.out.2.2.2.2; omega⟩); clear hB5 HF hx3 hv0 hv1; have hx0 := (HG.out.2.2.2.1.cell (World.block_lt_of_cell? w _ HX0.out)).trans HX0.out; have hc0 : W5.cell? ⟨w.heap.size + 1 + 1, 0, none⟩ = some (.int .i64 0) := (blk_cell HG.out.2.2.1 0).trans rfl; have hc1 : W5.cell? ⟨w.heap.size + 1 + 1, 1, none⟩ = some (.slice none 0 0) := (blk_cell HG.out.2.2.1 1).trans rfl; have hc2 : W5.cell? ⟨w.heap.size + 1 + 1, 2, none⟩ = some (.slice none 0 0) := (blk_cell HG.out.2.2.1 2).trans rfl; have hc3 : W5.cell? ⟨w.heap.size + 1 + 1, 3, none⟩ = some (.bool false) := (blk_cell HG.out.2.2.1 3).trans rfl; have hf0 : W5.frozen? ⟨w.heap.size + 1 + 1, 0, none⟩ = false := frozen_of_row _ _ _ _ _ HG.out.2.2.1; have hf1 : W5.frozen? ⟨w.heap.size + 1 + 1, 1, none⟩ = false := frozen_of_row _ _ _ _ _ HG.out.2.2.1; have hf2 : W5.frozen? ⟨w.heap.size + 1 + 1, 2, none⟩ = false := frozen_of_row _ _ _ _ _ HG.out.2.2.1; have hf3 : W5.frozen? ⟨w.heap.size + 1 + 1, 3, none⟩ = false := frozen_of_row _ _ _ _ _ HG.out.2.2.1)))
  refine bodyPost_ret (results_ct rfl _ _ (w.heap.size + 1 + 1) 24 #[.int .i64 0, .slice none 0 0, .slice none 0 0, .bool false] (0, 0) _ rfl (by refine blk_put (cs := #[.int .i64 0, .slice none 0 0, .slice none 0 0, .bool false]) ?_ 3 _ rfl; refine blk_put (cs := #[.int .i64 0, .slice none 0 0, .slice none 0 0, .bool false]) ?_ 2 _ rfl; refine blk_put (cs := #[.int .i64 0, .slice none 0 0, .slice none 0 0, .bool false]) ?_ 1 _ rfl; refine blk_put (cs := #[.int .i64 0, .slice none 0 0, .slice none 0 0, .bool false]) ?_ 0 _ rfl; exact HG.out.2.2.1) Tryd.underlying24 rfl (by kernel_rfl)) rfl ?_
  exact ⟨rfl, (((HG.out.2.2.2.1.setCell (by simp; omega) _).setCell (by simp; omega) _).setCell (by simp; omega) _).setCell (by simp; omega) _⟩

set_option maxHeartbeats 4000000 in
set_option maxRecDepth 100000 in
theorem ended_go_map (fid : Nat) (cap : Array Value) (hE : Enters Tryd.prog fid) (t : Int) (fl : Bool) (A0 : Option Addr) (c0 : Nat) (l0 : List S38) (A1 : Option Addr) (c1 : Nat) (l1 : List S38) (b : Nat) (w : World)
    (h0 : Kd.C k38 w A0 l0.length l0) (h1 : Kd.C k38 w A1 l1.length l1) (hl0 : l0.length ≤ 6000000000000) (hl1 : l1.length ≤ 6000000000000) (hT : Tab w) (he : knownP t l0 l1 fl [⟨0, b⟩] = 0) (hfl : fl = false) (hb : b < l0.length) (hst : (rd_T38 l0 (b : Int)).f0 = 1) (hl0' : l0.length ≤ 100000) (hl1' : l1.length ≤ 100000) (s' : S38) (fl' : Bool)
    (hdo : ∀ (W : World) (gb gs off : Nat) (u0 u1 : Value), bookAt W gb t u0 u1 fl → taskAt W gs off (rd_T38 l0 (b : Int)) → gs ≠ gb → w.heap.size ≤ gs → Below w.heap.size w W →
      Calls Tryd.prog fid (#[.pointer (some ⟨gb, 0, none⟩), .pointer (some ⟨gs, off, none⟩)] ++ cap) W fun e w' => e = .returned (.tuple #[]) ∧ ∃ q, w' = (put4 W gs off s' gb fl').drewN q) :
    Calls Tryd.prog 45 #[.agg #[.int .i64 t, .slice A0 l0.length c0, .slice A1 l1.length c1, .bool fl], .agg #[.int .i64 0, .int .i64 b], .func (.func fid) #[] cap] w fun e_ w' => ∃ v1 v2 : Value, e_ = .returned (.tuple #[.agg #[.int .i64 t, v1, v2, .bool fl'], .int .i64 0]) ∧ Kd.R k38 38 w' w.heap.size (fun k => some k ≠ v2.ownBlock) v1 (l0.set b s') ∧ Kd.R k38 38 w' w.heap.size (fun k => some k ≠ v1.ownBlock) v2 l1 ∧ Below w.heap.size w w' := by
  subst hfl
  have hl3 := lays3_of w t (.slice A0 l0.length c0) (.slice A1 l1.length c1) false 0 b
  have hba : Below w.heap.size w ((w3of w t (.slice A0 l0.length c0) (.slice A1 l1.length c1) false 0 b).alloc (.cells #[.int .i64 0, .int .i64 b] 29)) := below_alloc hl3.q0 _
  have hkn := known_any t false A0 c0 l0 A1 c1 l1 (some ⟨(w3of w t (.slice A0 l0.length c0) (.slice A1 l1.length c1) false 0 b).heap.size, 0, none⟩) 1 [⟨0, b⟩] ((w3of w t (.slice A0 l0.length c0) (.slice A1 l1.length c1) false 0 b).alloc (.cells #[.int .i64 0, .int .i64 b] 29)) (Kd.C_below h0 hba) (Kd.C_below h1 hba) (C_one (w3of w t (.slice A0 l0.length c0) (.slice A1 l1.length c1) false 0 b) 0 b) (by simp) hl0 hl1 (hT.below hba)
  rw [he] at hkn
  have H0 := Aside0.mk h0
  have H1 := Aside0.mk h1
  obtain ⟨W3, hW3⟩ : ∃ W3, (w3of w t (.slice A0 l0.length c0) (.slice A1 l1.length c1) false 0 b) = W3 := ⟨_, rfl⟩
  rw [hW3] at hl3 hba hkn
  unfold w3of at hW3
  have HW3 := Aside0.mk hW3
  have HL := Aside0.mk hl3
  have HKN := Aside0.mk hkn
  have ha := below_alloc (Below.refl W3.heap.size W3) (.cells #[.int .i64 0, .int .i64 b] 29)
  have HBA := Aside0.mk ha
  clear hba hkn h0 h1 he hl3 hT hl0 hl1 ha hW3
  have hu22 := Tryd.underlying22
  have hu29 := Tryd.underlying29
  have hu24 := Tryd.underlying24
  have hu38 := Tryd.underlying38
  have hu26 := Tryd.underlying26
  have hz0 := HL.out.q2.c0
  have hz1 := HL.out.q2.c1
  have hz2 := HL.out.q2.c2
  have hz3 := HL.out.q2.c3
  have hy0 : W3.cell? ⟨w.heap.size + 1, 0, none⟩ = some (.int .i64 0) := (blk_cell HL.out.q3 0).trans rfl
  have hy1 : W3.cell? ⟨w.heap.size + 1, 1, none⟩ = some (.int .i64 b) := (blk_cell HL.out.q3 1).trans rfl
  go_enter Tryd.func45, Tryd.ntmps45
  go_upto_region 1 with (fail)
  rw [HW3.out]
  clear HW3
  obtain ⟨ad, ea, hx0, _, _⟩ := at_T38 H0.out (b : Int) (by omega) (by omega)
  subst ea
  rw [Int.toNat_natCast] at hx0
  rw [hst] at hx0
  have HX0 := Aside0.mk hx0
  clear hx0 hst
  have HBI := Aside0.mk hb
  clear hb
  go_upto_region 6 with (first | (go_at_call 54; go_must (refine HKN.out.mono ?_; rintro e_ W4 ⟨rfl, hB4⟩; have HF := Aside0.mk (HL.out.below (below_step HBA.out hB4)); clear hB4 HL HKN HBA hz0 hz1 hz2 hz3 hy0 hy1; have hx3 := HF.out.1.c3; have hv0 : W4.cell? ⟨w.heap.size + 1, 0, none⟩ = some (.int .i64 0) := (blk_cell HF.out.2.1 0).trans rfl; have hv1 : W4.cell? ⟨w.heap.size + 1, 1, none⟩ = some (.int .i64 b) := (blk_cell HF.out.2.1 1).trans rfl)) | (go_at_call 55; go_must (refine (state_map W4 w.heap.size t ad _ _ _ false b HF.out.1 (by omega) (by have := HBI.out; omega)).mono ?_; rintro e_ W5 ⟨rfl, hB5⟩; have HG := Aside0.mk (show bookAt W5 w.heap.size t _ _ false ∧ W5.heap[w.heap.size + 1]? = some (.cells #[.int .i64 0, .int .i64 b] 29 (0, 0)) ∧ W5.heap[w.heap.size + 1 + 1]? = some (.cells #[.int .i64 0, .slice none 0 0, .slice none 0 0, .bool false] 24 (0, 0)) ∧ Below w.heap.size w W5 ∧ w.heap.size + 3 ≤ W5.heap.size from ⟨HF.out.1.below hB5 HF.out.1.lt, (hB5.block _ (by have := HF.out.2.2.2.2; omega)).trans HF.out.2.1, (hB5.block _ (by have := HF.out.2.2.2.2; omega)).trans HF.out.2.2.1, below_step HF.out.2.2.2.1 hB5, by have := hB5.size; have := HF.out.2.2.2.2; omega⟩); clear hB5 HF hx3 hv0 hv1; have hx0 := (HG.out.2.2.2.1.cell (World.block_lt_of_cell? w _ HX0.out)).trans HX0.out)))
  clear hx0
  have hz0 := HG.out.1.c0
  have hz1 := HG.out.1.c1
  have hz2 := HG.out.1.c2
  have hz3 := HG.out.1.c3
  have hy0 : W5.cell? ⟨w.heap.size + 1, 0, none⟩ = some (.int .i64 0) := (blk_cell HG.out.2.1 0).trans rfl
  have hy1 : W5.cell? ⟨w.heap.size + 1, 1, none⟩ = some (.int .i64 b) := (blk_cell HG.out.2.1 1).trans rfl
  have hch := changed_map fid cap hE t false (some ad) c0 l0 A1 c1 l1 b s' fl' W5 (Kd.C_below H0.out HG.out.2.2.2.1) (Kd.C_below H1.out HG.out.2.2.2.1) hl0' hl1' HBI.out
    (fun W gb gs off u0 u1 g1 g2 g3 g4 g5 => hdo W gb gs off u0 u1 g1 g2 g3 (Nat.le_trans (by have := HG.out.2.2.2.2; omega) g4) (below_step HG.out.2.2.2.1 g5))
  have HCH := Aside0.mk hch
  clear hch hdo
  go_wp2_with (go_at_call 56; go_must (refine HCH.out.mono ?_; rintro e_ W4 ⟨v1, v2, rfl, hr1, hr2, hB6⟩; have HR1 := Aside0.mk (Kd.R_mono (Kd.R_bound hr1) (fun k hk => (⟨hk.1, hk.2.1⟩ : _ ∧ W5.heap.size ≤ k))); have HR2 := Aside0.mk (Kd.R_mono (Kd.R_bound hr2) (fun k hk => (⟨hk.1, hk.2.1⟩ : _ ∧ W5.heap.size ≤ k))); have HB6 := Aside0.mk (below_step HG.out.2.2.2.1 hB6); have HZ := Aside0.mk (show W4.heap[w.heap.size + 1 + 1]? = some (.cells #[.int .i64 0, .slice none 0 0, .slice none 0 0, .bool false] 24 (0, 0)) from (hB6.block _ (by have := HG.out.2.2.2.2; omega)).trans HG.out.2.2.1); have HS := Aside0.mk HG.out.2.2.2.2; have HB5 := Aside0.mk (below_size HG.out.2.2.2.1); clear hr1 hr2 hB6 HCH HG hz0 hz1 hz2 hz3 hy0 hy1; obtain ⟨B1, d1, e1⟩ := Kd.R_slice HR1.out; subst e1; obtain ⟨B2, d2, e2⟩ := Kd.R_slice HR2.out; subst e2; (try simp only [List.length_set] at HR1 HR2); have hc0 : W4.cell? ⟨w.heap.size + 1 + 1, 0, none⟩ = some (.int .i64 0) := (blk_cell HZ.out 0).trans rfl; have hc1 : W4.cell? ⟨w.heap.size + 1 + 1, 1, none⟩ = some (.slice none 0 0) := (blk_cell HZ.out 1).trans rfl; have hc2 : W4.cell? ⟨w.heap.size + 1 + 1, 2, none⟩ = some (.slice none 0 0) := (blk_cell HZ.out 2).trans rfl; have hc3 : W4.cell? ⟨w.heap.size + 1 + 1, 3, none⟩ = some (.bool false) := (blk_cell HZ.out 3).trans rfl; have hf0 : W4.frozen? ⟨w.heap.size + 1 + 1, 0, none⟩ = false := frozen_of_row _ _ _ _ _ HZ.out; have hf1 : W4.frozen? ⟨w.heap.size + 1 + 1, 1, none⟩ = false := frozen_of_row _ _ _ _ _ HZ.out; have hf2 : W4.frozen? ⟨w.heap.size + 1 + 1, 2, none⟩ = false := frozen_of_row _ _ _ _ _ HZ.out; have hf3 : W4.frozen? ⟨w.heap.size + 1 + 1, 3, none⟩ = false := frozen_of_row _ _ _ _ _ HZ.out))
  refine bodyPost_ret (results_ct rfl _ _ (w.heap.size + 1 + 1) 24 #[.int .i64 t, .slice B1 l0.length d1, .slice B2 l1.length d2, .bool fl'] (0, 0) _ rfl (by refine blk_put (cs := #[.int .i64 t, .slice B1 l0.length d1, .slice B2 l1.length d2, .bool false]) ?_ 3 _ rfl; refine blk_put (cs := #[.int .i64 t, .slice B1 l0.length d1, .slice none 0 0, .bool false]) ?_ 2 _ rfl; refine blk_put (cs := #[.int .i64 t, .slice none 0 0, .slice none 0 0, .bool false]) ?_ 1 _ rfl; refine blk_put (cs := #[.int .i64 0, .slice none 0 0, .slice none 0 0, .bool false]) ?_ 0 _ rfl; exact HZ.out) Tryd.underlying24 rfl (by kernel_rfl)) rfl ?_
  have hs := HS.out
  refine ⟨_, _, rfl, ?_, ?_, (((HB6.out.setCell (by simp; omega) _).setCell (by simp; omega) _).setCell (by simp; omega) _).setCell (by simp; omega) _⟩
  · exact Kd.R_lower (Kd.R_mono (Kd.R_far (p := ⟨w.heap.size + 1 + 1, 3, none⟩) (Kd.R_far (p := ⟨w.heap.size + 1 + 1, 2, none⟩) (Kd.R_far (p := ⟨w.heap.size + 1 + 1, 1, none⟩) (Kd.R_far (p := ⟨w.heap.size + 1 + 1, 0, none⟩) HR1.out (fun k hk => by have := hk.2; simp; omega) _) (fun k hk => by have := hk.2; simp; omega) _) (fun k hk => by have := hk.2; simp; omega) _) (fun k hk => by have := hk.2; simp; omega) _) (fun k hk => hk.1)) HB5.out
  · exact Kd.R_lower (Kd.R_mono (Kd.R_far (p := ⟨w.heap.size + 1 + 1, 3, none⟩) (Kd.R_far (p := ⟨w.heap.size + 1 + 1, 2, none⟩) (Kd.R_far (p := ⟨w.heap.size + 1 + 1, 1, none⟩) (Kd.R_far (p := ⟨w.heap.size + 1 + 1, 0, none⟩) HR2.out (fun k hk => by have := hk.2; simp; omega) _) (fun k hk => by have := hk.2; simp; omega) _) (fun k hk => by have := hk.2; simp; omega) _) (fun k hk => by have := hk.2; simp; omega) _) (fun k hk => hk.1)) HB5.out

set_option maxHeartbeats 4000000 in
set_option maxRecDepth 100000 in
theorem ended_go_red (fid : Nat) (cap : Array Value) (hE : Enters Tryd.prog fid) (t : Int) (fl : Bool) (A0 : Option Addr) (c0 : Nat) (l0 : List S38) (A1 : Option Addr) (c1 : Nat) (l1 : List S38) (b : Nat) (w : World)
    (h0 : Kd.C k38 w A0 l0.length l0) (h1 : Kd.C k38 w A1 l1.length l1) (hl0 : l0.length ≤ 6000000000000) (hl1 : l1.length ≤ 6000000000000) (hT : Tab w) (he : knownP t l0 l1 fl [⟨1, b⟩] = 0) (hfl : fl = false) (hb : b < l1.length) (hst : (rd_T38 l1 (b : Int)).f0 = 1) (hl0' : l0.length ≤ 100000) (hl1' : l1.length ≤ 100000) (s' : S38) (fl' : Bool)
    (hdo : ∀ (W : World) (gb gs off : Nat) (u0 u1 : Value), bookAt W gb t u0 u1 fl → taskAt W gs off (rd_T38 l1 (b : Int)) → gs ≠ gb → w.heap.size ≤ gs → Below w.heap.size w W →
      Calls Tryd.prog fid (#[.pointer (some ⟨gb, 0, none⟩), .pointer (some ⟨gs, off, none⟩)] ++ cap) W fun e w' => e = .returned (.tuple #[]) ∧ ∃ q, w' = (put4 W gs off s' gb fl').drewN q) :
    Calls Tryd.prog 45 #[.agg #[.int .i64 t, .slice A0 l0.length c0, .slice A1 l1.length c1, .bool fl], .agg #[.int .i64 1, .int .i64 b], .func (.func fid) #[] cap] w fun e_ w' => ∃ v1 v2 : Value, e_ = .returned (.tuple #[.agg #[.int .i64 t, v1, v2, .bool fl'], .int .i64 0]) ∧ Kd.R k38 38 w' w.heap.size (fun k => some k ≠ v2.ownBlock) v1 l0 ∧ Kd.R k38 38 w' w.heap.size (fun k => some k ≠ v1.ownBlock) v2 (l1.set b s') ∧ Below w.heap.size w w' := by
  subst hfl
  have hl3 := lays3_of w t (.slice A0 l0.length c0) (.slice A1 l1.length c1) false 1 b
  have hba : Below w.heap.size w ((w3of w t (.slice A0 l0.length c0) (.slice A1 l1.length c1) false 1 b).alloc (.cells #[.int .i64 1, .int .i64 b] 29)) := below_alloc hl3.q0 _
  have hkn := known_any t false A0 c0 l0 A1 c1 l1 (some ⟨(w3of w t (.slice A0 l0.length c0) (.slice A1 l1.length c1) false 1 b).heap.size, 0, none⟩) 1 [⟨1, b⟩] ((w3of w t (.slice A0 l0.length c0) (.slice A1 l1.length c1) false 1 b).alloc (.cells #[.int .i64 1, .int .i64 b] 29)) (Kd.C_below h0 hba) (Kd.C_below h1 hba) (C_one (w3of w t (.slice A0 l0.length c0) (.slice A1 l1.length c1) false 1 b) 1 b) (by simp) hl0 hl1 (hT.below hba)
  rw [he] at hkn
  have H0 := Aside0.mk h0
  have H1 := Aside0.mk h1
  obtain ⟨W3, hW3⟩ : ∃ W3, (w3of w t (.slice A0 l0.length c0) (.slice A1 l1.length c1) false 1 b) = W3 := ⟨_, rfl⟩
  rw [hW3] at hl3 hba hkn
  unfold w3of at hW3
  have HW3 := Aside0.mk hW3
  have HL := Aside0.mk hl3
  have HKN := Aside0.mk hkn
  have ha := below_alloc (Below.refl W3.heap.size W3) (.cells #[.int .i64 1, .int .i64 b] 29)
  have HBA := Aside0.mk ha
  clear hba hkn h0 h1 he hl3 hT hl0 hl1 ha hW3
  have hu22 := Tryd.underlying22
  have hu29 := Tryd.underlying29
  have hu24 := Tryd.underlying24
  have hu38 := Tryd.underlying38
  have hu26 := Tryd.underlying26
  have hz0 := HL.out.q2.c0
  have hz1 := HL.out.q2.c1
  have hz2 := HL.out.q2.c2
  have hz3 := HL.out.q2.c3
  have hy0 : W3.cell? ⟨w.heap.size + 1, 0, none⟩ = some (.int .i64 1) := (blk_cell HL.out.q3 0).trans rfl
  have hy1 : W3.cell? ⟨w.heap.size + 1, 1, none⟩ = some (.int .i64 b) := (blk_cell HL.out.q3 1).trans rfl
  go_enter Tryd.func45, Tryd.ntmps45
  go_upto_region 1 with (fail)
  rw [HW3.out]
  clear HW3
  obtain ⟨ad, ea, hx0, _, _⟩ := at_T38 H1.out (b : Int) (by omega) (by omega)
  subst ea
  rw [Int.toNat_natCast] at hx0
  rw [hst] at hx0
  have HX0 := Aside0.mk hx0
  clear hx0 hst
  have HBI := Aside0.mk hb
  clear hb
  go_upto_region 6 with (first | (go_at_call 54; go_must (refine HKN.out.mono ?_; rintro e_ W4 ⟨rfl, hB4⟩; have HF := Aside0.mk (HL.out.below (below_step HBA.out hB4)); clear hB4 HL HKN HBA hz0 hz1 hz2 hz3 hy0 hy1; have hx3 := HF.out.1.c3; have hv0 : W4.cell? ⟨w.heap.size + 1, 0, none⟩ = some (.int .i64 1) := (blk_cell HF.out.2.1 0).trans rfl; have hv1 : W4.cell? ⟨w.heap.size + 1, 1, none⟩ = some (.int .i64 b) := (blk_cell HF.out.2.1 1).trans rfl)) | (go_at_call 55; go_must (refine (state_red W4 w.heap.size t ad _ _ _ false b HF.out.1 (by omega) (by have := HBI.out; omega)).mono ?_; rintro e_ W5 ⟨rfl, hB5⟩; have HG := Aside0.mk (show bookAt W5 w.heap.size t _ _ false ∧ W5.heap[w.heap.size + 1]? = some (.cells #[.int .i64 1, .int .i64 b] 29 (0, 0)) ∧ W5.heap[w.heap.size + 1 + 1]? = some (.cells #[.int .i64 0, .slice none 0 0, .slice none 0 0, .bool false] 24 (0, 0)) ∧ Below w.heap.size w W5 ∧ w.heap.size + 3 ≤ W5.heap.size from ⟨HF.out.1.below hB5 HF.out.1.lt, (hB5.block _ (by have := HF.out.2.2.2.2; omega)).trans HF.out.2.1, (hB5.block _ (by have := HF.out.2.2.2.2; omega)).trans HF.out.2.2.1, below_step HF.out.2.2.2.1 hB5, by have := hB5.size; have := HF.out.2.2.2.2; omega⟩); clear hB5 HF hx3 hv0 hv1; have hx0 := (HG.out.2.2.2.1.cell (World.block_lt_of_cell? w _ HX0.out)).trans HX0.out)))
  clear hx0
  have hz0 := HG.out.1.c0
  have hz1 := HG.out.1.c1
  have hz2 := HG.out.1.c2
  have hz3 := HG.out.1.c3
  have hy0 : W5.cell? ⟨w.heap.size + 1, 0, none⟩ = some (.int .i64 1) := (blk_cell HG.out.2.1 0).trans rfl
  have hy1 : W5.cell? ⟨w.heap.size + 1, 1, none⟩ = some (.int .i64 b) := (blk_cell HG.out.2.1 1).trans rfl
  have hch := changed_red fid cap hE t false A0 c0 l0 (some ad) c1 l1 b s' fl' W5 (Kd.C_below H0.out HG.out.2.2.2.1) (Kd.C_below H1.out HG.out.2.2.2.1) hl0' hl1' HBI.out
    (fun W gb gs off u0 u1 g1 g2 g3 g4 g5 => hdo W gb gs off u0 u1 g1 g2 g3 (Nat.le_trans (by have := HG.out.2.2.2.2; omega) g4) (below_step HG.out.2.2.2.1 g5))
  have HCH := Aside0.mk hch
  clear hch hdo
  go_wp2_with (go_at_call 56; go_must (refine HCH.out.mono ?_; rintro e_ W4 ⟨v1, v2, rfl, hr1, hr2, hB6⟩; have HR1 := Aside0.mk (Kd.R_mono (Kd.R_bound hr1) (fun k hk => (⟨hk.1, hk.2.1⟩ : _ ∧ W5.heap.size ≤ k))); have HR2 := Aside0.mk (Kd.R_mono (Kd.R_bound hr2) (fun k hk => (⟨hk.1, hk.2.1⟩ : _ ∧ W5.heap.size ≤ k))); have HB6 := Aside0.mk (below_step HG.out.2.2.2.1 hB6); have HZ := Aside0.mk (show W4.heap[w.heap.size + 1 + 1]? = some (.cells #[.int .i64 0, .slice none 0 0, .slice none 0 0, .bool false] 24 (0, 0)) from (hB6.block _ (by have := HG.out.2.2.2.2; omega)).trans HG.out.2.2.1); have HS := Aside0.mk HG.out.2.2.2.2; have HB5 := Aside0.mk (below_size HG.out.2.2.2.1); clear hr1 hr2 hB6 HCH HG hz0 hz1 hz2 hz3 hy0 hy1; obtain ⟨B1, d1, e1⟩ := Kd.R_slice HR1.out; subst e1; obtain ⟨B2, d2, e2⟩ := Kd.R_slice HR2.out; subst e2; (try simp only [List.length_set] at HR1 HR2); have hc0 : W4.cell? ⟨w.heap.size + 1 + 1, 0, none⟩ = some (.int .i64 0) := (blk_cell HZ.out 0).trans rfl; have hc1 : W4.cell? ⟨w.heap.size + 1 + 1, 1, none⟩ = some (.slice none 0 0) := (blk_cell HZ.out 1).trans rfl; have hc2 : W4.cell? ⟨w.heap.size + 1 + 1, 2, none⟩ = some (.slice none 0 0) := (blk_cell HZ.out 2).trans rfl; have hc3 : W4.cell? ⟨w.heap.size + 1 + 1, 3, none⟩ = some (.bool false) := (blk_cell HZ.out 3).trans rfl; have hf0 : W4.frozen? ⟨w.heap.size + 1 + 1, 0, none⟩ = false := frozen_of_row _ _ _ _ _ HZ.out; have hf1 : W4.frozen? ⟨w.heap.size + 1 + 1, 1, none⟩ = false := frozen_of_row _ _ _ _ _ HZ.out; have hf2 : W4.frozen? ⟨w.heap.size + 1 + 1, 2, none⟩ = false := frozen_of_row _ _ _ _ _ HZ.out; have hf3 : W4.frozen? ⟨w.heap.size + 1 + 1, 3, none⟩ = false := frozen_of_row _ _ _ _ _ HZ.out))
  refine bodyPost_ret (results_ct rfl _ _ (w.heap.size + 1 + 1) 24 #[.int .i64 t, .slice B1 l0.length d1, .slice B2 l1.length d2, .bool fl'] (0, 0) _ rfl (by refine blk_put (cs := #[.int .i64 t, .slice B1 l0.length d1, .slice B2 l1.length d2, .bool false]) ?_ 3 _ rfl; refine blk_put (cs := #[.int .i64 t, .slice B1 l0.length d1, .slice none 0 0, .bool false]) ?_ 2 _ rfl; refine blk_put (cs := #[.int .i64 t, .slice none 0 0, .slice none 0 0, .bool false]) ?_ 1 _ rfl; refine blk_put (cs := #[.int .i64 0, .slice none 0 0, .slice none 0 0, .bool false]) ?_ 0 _ rfl; exact HZ.out) Tryd.underlying24 rfl (by kernel_rfl)) rfl ?_
  have hs := HS.out
  refine ⟨_, _, rfl, ?_, ?_, (((HB6.out.setCell (by simp; omega) _).setCell (by simp; omega) _).setCell (by simp; omega) _).setCell (by simp; omega) _⟩
  · exact Kd.R_lower (Kd.R_mono (Kd.R_far (p := ⟨w.heap.size + 1 + 1, 3, none⟩) (Kd.R_far (p := ⟨w.heap.size + 1 + 1, 2, none⟩) (Kd.R_far (p := ⟨w.heap.size + 1 + 1, 1, none⟩) (Kd.R_far (p := ⟨w.heap.size + 1 + 1, 0, none⟩) HR1.out (fun k hk => by have := hk.2; simp; omega) _) (fun k hk => by have := hk.2; simp; omega) _) (fun k hk => by have := hk.2; simp; omega) _) (fun k hk => by have := hk.2; simp; omega) _) (fun k hk => hk.1)) HB5.out
  · exact Kd.R_lower (Kd.R_mono (Kd.R_far (p := ⟨w.heap.size + 1 + 1, 3, none⟩) (Kd.R_far (p := ⟨w.heap.size + 1 + 1, 2, none⟩) (Kd.R_far (p := ⟨w.heap.size + 1 + 1, 1, none⟩) (Kd.R_far (p := ⟨w.heap.size + 1 + 1, 0, none⟩) HR2.out (fun k hk => by have := hk.2; simp; omega) _) (fun k hk => by have := hk.2; simp; omega) _) (fun k hk => by have := hk.2; simp; omega) _) (fun k hk => by have := hk.2; simp; omega) _) (fun k hk => hk.1)) HB5.out
end Go.Proofs.YtponmfnegdlppaaDoor.P

end
section
/- ledger.ended in the print's form; ledger.Done, ledger.Died (printed by HDone.gen.py). -/
namespace Go.Proofs.YtponmfnegdlppaaDoor.P
open Go.RowKit Go.Proofs.YtponmfnegdlppaaDoorW.PrintWords Go.Proofs.YtponmfnegdlppaaDoorW.PrintLast Go.Proofs.YtponmfnegdlppaaDoorW.PrintMore
set_option linter.unusedVariables false
set_option linter.unusedSimpArgs false

theorem scan_good (t : Int) (held : Bool) : ∀ (l : List S38) (f g : Int), scanP t held l f = some g → ∀ s ∈ l, goodP t held s = true
  | [], f, g, h, s, hs => by cases hs
  | x :: l, f, g, h, s, hs => by
    rw [scanP] at h
    by_cases hg : goodP t held x = true
    · rw [if_pos hg] at h
      rcases List.mem_cons.1 hs with rfl | hs
      · exact hg
      · exact scan_good t held l _ g h s hs
    · rw [if_neg hg] at h
      cases h
/-- what a right book is -/
theorem check_ok {t : Int} {l0 l1 : List S38} {fl : Bool} (h : checkP t l0 l1 fl = 0) : 1 ≤ t ∧ t ≤ 16 ∧ l0.length ≤ 256 ∧ 1 ≤ l1.length ∧ l1.length ≤ 65535 ∧
    (∀ s ∈ l0, goodP t false s = true) ∧ (∀ s ∈ l1, goodP t true s = true) ∧ ∃ f g, scanP t false l0 0 = some f ∧ scanP t true l1 f = some g ∧ ¬ 1 < g ∧ fl = decide (g = 1) := by
  unfold checkP at h
  by_cases k1 : t < 1
  · rw [if_pos k1] at h; cases h
  rw [if_neg k1] at h
  by_cases k2 : 16 < t
  · rw [if_pos k2] at h; cases h
  rw [if_neg k2] at h
  by_cases k3 : 256 < l0.length
  · rw [if_pos k3] at h; cases h
  rw [if_neg k3] at h
  by_cases k4 : l1.length < 1
  · rw [if_pos k4] at h; cases h
  rw [if_neg k4] at h
  by_cases k5 : 65535 < l1.length
  · rw [if_pos k5] at h; cases h
  rw [if_neg k5] at h
  unfold scan0 at h
  cases h0 : scanP t false l0 0 with
  | none => rw [h0] at h; cases h
  | some f =>
    rw [h0] at h
    simp only [scan1] at h
    cases h1 : scanP t true l1 f with
    | none => rw [h1] at h; cases h
    | some g =>
      rw [h1] at h
      simp only [finP] at h
      by_cases h2 : 1 < g ∨ fl ≠ decide (g = 1)
      · rw [if_pos h2] at h; cases h
      · refine ⟨by omega, by omega, by omega, by omega, by omega, scan_good t false l0 _ _ h0, scan_good t true l1 _ _ h1, f, g, rfl, h1, fun h => h2 (.inl h), ?_⟩
        by_cases h3 : fl = decide (g = 1)
        · exact h3
        · exact absurd (.inr h3) h2
theorem known_zero {t : Int} {l0 l1 : List S38} {fl : Bool} {ts : List S29} (h : knownP t l0 l1 fl ts = 0) : checkP t l0 l1 fl = 0 ∧ scanT l0.length l1.length ts = 0 := by
  unfold knownP at h
  by_cases hc : checkP t l0 l1 fl = 0
  · rw [if_pos hc] at h; exact ⟨hc, h⟩
  · rw [if_neg hc] at h; exact absurd h hc
theorem okT_form {n0 n1 : Nat} {k b : Int} (h : okT n0 n1 ⟨k, b⟩ = true) : (k = 0 ∧ ∃ n : Nat, b = n ∧ n < n0) ∨ (k = 1 ∧ ∃ n : Nat, b = n ∧ n < n1) := by
  unfold okT roomT at h
  simp only [Bool.and_eq_true, Bool.not_eq_true', decide_eq_false_iff_not] at h
  obtain ⟨h1, h2⟩ := h
  by_cases g0 : k = 0
  · rw [if_pos g0] at h2
    exact .inl ⟨g0, b.toNat, by omega, by omega⟩
  rw [if_neg g0] at h2
  by_cases g1 : k = 1
  · rw [if_pos g1] at h2
    exact .inr ⟨g1, b.toNat, by omega, by omega⟩
  rw [if_neg g1] at h2
  omega
theorem known_one {t : Int} {l0 l1 : List S38} {fl : Bool} {k b : Int} (h : knownP t l0 l1 fl [⟨k, b⟩] = 0) : checkP t l0 l1 fl = 0 ∧ ((k = 0 ∧ ∃ n : Nat, b = n ∧ n < l0.length) ∨ (k = 1 ∧ ∃ n : Nat, b = n ∧ n < l1.length)) := by
  obtain ⟨h1, h2⟩ := known_zero h
  refine ⟨h1, ?_⟩
  simp only [scanT] at h2
  by_cases hk : okT l0.length l1.length ⟨k, b⟩ = true
  · exact okT_form hk
  · rw [if_neg hk] at h2; cases h2
theorem rd_mem {l : List S38} {n : Nat} (h : n < l.length) : rd_T38 l (n : Int) ∈ l := by
  rw [rd38 l n h]
  exact List.getElem_mem h
theorem good_charge {t : Int} {held : Bool} {s : S38} (ht : t ≤ 16) (h : goodP t held s = true) : 0 ≤ s.f2 ∧ s.f2 ≤ 1000 := by
  unfold goodP at h
  simp only [Bool.and_eq_true, Bool.not_eq_true', decide_eq_false_iff_not] at h
  obtain ⟨_, _, _, h4, h5, _⟩ := h
  omega
/-- a task's state -/
def stP (l0 l1 : List S38) (k b : Int) : S38 := if k = 0 then rd_T38 l0 b else rd_T38 l1 b
/-- a running attempt's end -/
def endP (t : Int) (l0 l1 : List S38) (fl : Bool) (k b : Int) (upd : S38 → S38) (uf : S38 → Bool) : Int × List S38 × List S38 × Bool × Int :=
  if knownP t l0 l1 fl [⟨k, b⟩] = 0 then
    if fl = true ∨ (stP l0 l1 k b).f0 ≠ 1 then (0, [], [], false, 192)
    else if k = 0 then (t, l0.set b.toNat (upd (stP l0 l1 k b)), l1, uf (stP l0 l1 k b), 0) else (t, l0, l1.set b.toNat (upd (stP l0 l1 k b)), uf (stP l0 l1 k b), 0)
  else (0, [], [], false, knownP t l0 l1 fl [⟨k, b⟩])

theorem ended_any (fid : Nat) (cap : Array Value) (hE : Enters Tryd.prog fid) (upd : S38 → S38) (uf : S38 → Bool) (t : Int) (fl : Bool) (A0 : Option Addr) (c0 : Nat) (l0 : List S38) (A1 : Option Addr) (c1 : Nat) (l1 : List S38) (k b : Int) (r1 : Int) (r2 r3 : List S38) (r4 : Bool) (r5 : Int) (w : World)
    (h0 : Kd.C k38 w A0 l0.length l0) (h1 : Kd.C k38 w A1 l1.length l1) (hl0 : l0.length ≤ 6000000000000) (hl1 : l1.length ≤ 6000000000000) (hT : Tab w)
    (hdo : ∀ (W : World) (gb gs off : Nat) (u0 u1 : Value) (s : S38), 0 ≤ s.f2 → s.f2 ≤ 1000 → bookAt W gb t u0 u1 false → taskAt W gs off s → gs ≠ gb → w.heap.size ≤ gs → Below w.heap.size w W →
      Calls Tryd.prog fid (#[.pointer (some ⟨gb, 0, none⟩), .pointer (some ⟨gs, off, none⟩)] ++ cap) W fun e w' => e = .returned (.tuple #[]) ∧ ∃ q, w' = (put4 W gs off (upd s) gb (uf s)).drewN q)
    (h : endP t l0 l1 fl k b upd uf = (r1, r2, r3, r4, r5)) :
    Calls Tryd.prog 45 #[.agg #[.int .i64 t, .slice A0 l0.length c0, .slice A1 l1.length c1, .bool fl], .agg #[.int .i64 k, .int .i64 b], .func (.func fid) #[] cap] w fun e_ w' =>
      ∃ v1 v2 : Value, e_ = .returned (.tuple #[.agg #[.int .i64 r1, v1, v2, .bool r4], .int .i64 r5]) ∧ Kd.R k38 38 w' w.heap.size (fun k => some k ≠ v2.ownBlock) v1 r2 ∧ Kd.R k38 38 w' w.heap.size (fun k => some k ≠ v1.ownBlock) v2 r3 ∧ Below w.heap.size w w' := by
  unfold endP at h
  by_cases hk : knownP t l0 l1 fl [⟨k, b⟩] = 0
  · rw [if_pos hk] at h
    obtain ⟨hc, hf⟩ := known_one hk
    obtain ⟨q1, q2, q3, q4, q5, q6, q7, _⟩ := check_ok hc
    rcases hf with ⟨rfl, n, rfl, hn⟩ | ⟨rfl, n, rfl, hn⟩
    · have hst : stP l0 l1 0 (n : Int) = rd_T38 l0 (n : Int) := by unfold stP; rw [if_pos rfl]
      rw [hst] at h
      by_cases hfl : fl = true
      · rw [if_pos (.inl hfl)] at h
        simp only [Prod.mk.injEq] at h
        obtain ⟨rfl, rfl, rfl, rfl, rfl⟩ := h
        refine (ended_failed_map fid cap hE t fl A0 c0 l0 A1 c1 l1 n w h0 h1 hl0 hl1 hT hk hfl).mono ?_
        rintro e w' ⟨rfl, hB⟩
        exact ⟨_, _, rfl, Kd.R_nil _ _ _ _ _, Kd.R_nil _ _ _ _ _, hB⟩
      · have hfl' : fl = false := by cases fl <;> simp_all
        by_cases hs : (rd_T38 l0 (n : Int)).f0 ≠ 1
        · rw [if_pos (.inr hs)] at h
          simp only [Prod.mk.injEq] at h
          obtain ⟨rfl, rfl, rfl, rfl, rfl⟩ := h
          refine (ended_wait_map fid cap hE t fl A0 c0 l0 A1 c1 l1 n w h0 h1 hl0 hl1 hT hk hfl' hn hs).mono ?_
          rintro e w' ⟨rfl, hB⟩
          exact ⟨_, _, rfl, Kd.R_nil _ _ _ _ _, Kd.R_nil _ _ _ _ _, hB⟩
        · rw [if_neg (by rintro (h | h); exact hfl h; exact hs h), if_pos rfl, Int.toNat_natCast] at h
          simp only [Prod.mk.injEq] at h
          obtain ⟨rfl, rfl, rfl, rfl, rfl⟩ := h
          have hgc := good_charge q2 (q6 _ (rd_mem hn))
          exact ended_go_map fid cap hE t fl A0 c0 l0 A1 c1 l1 n w h0 h1 hl0 hl1 hT hk hfl' hn (Classical.not_not.1 hs) (by omega) (by omega) _ _ (fun W gb gs off u0 u1 g1 g2 g3 g4 g5 => hdo W gb gs off u0 u1 _ hgc.1 hgc.2 (hfl' ▸ g1) g2 g3 g4 g5)
    · have hst : stP l0 l1 1 (n : Int) = rd_T38 l1 (n : Int) := by unfold stP; rw [if_neg (by decide)]
      rw [hst] at h
      by_cases hfl : fl = true
      · rw [if_pos (.inl hfl)] at h
        simp only [Prod.mk.injEq] at h
        obtain ⟨rfl, rfl, rfl, rfl, rfl⟩ := h
        refine (ended_failed_red fid cap hE t fl A0 c0 l0 A1 c1 l1 n w h0 h1 hl0 hl1 hT hk hfl).mono ?_
        rintro e w' ⟨rfl, hB⟩
        exact ⟨_, _, rfl, Kd.R_nil _ _ _ _ _, Kd.R_nil _ _ _ _ _, hB⟩
      · have hfl' : fl = false := by cases fl <;> simp_all
        by_cases hs : (rd_T38 l1 (n : Int)).f0 ≠ 1
        · rw [if_pos (.inr hs)] at h
          simp only [Prod.mk.injEq] at h
          obtain ⟨rfl, rfl, rfl, rfl, rfl⟩ := h
          refine (ended_wait_red fid cap hE t fl A0 c0 l0 A1 c1 l1 n w h0 h1 hl0 hl1 hT hk hfl' hn hs).mono ?_
          rintro e w' ⟨rfl, hB⟩
          exact ⟨_, _, rfl, Kd.R_nil _ _ _ _ _, Kd.R_nil _ _ _ _ _, hB⟩
        · rw [if_neg (by rintro (h | h); exact hfl h; exact hs h), if_neg (by decide), Int.toNat_natCast] at h
          simp only [Prod.mk.injEq] at h
          obtain ⟨rfl, rfl, rfl, rfl, rfl⟩ := h
          have hgc := good_charge q2 (q7 _ (rd_mem hn))
          exact ended_go_red fid cap hE t fl A0 c0 l0 A1 c1 l1 n w h0 h1 hl0 hl1 hT hk hfl' hn (Classical.not_not.1 hs) (by omega) (by omega) _ _ (fun W gb gs off u0 u1 g1 g2 g3 g4 g5 => hdo W gb gs off u0 u1 _ hgc.1 hgc.2 (hfl' ▸ g1) g2 g3 g4 g5)
  · rw [if_neg hk] at h
    simp only [Prod.mk.injEq] at h
    obtain ⟨rfl, rfl, rfl, rfl, rfl⟩ := h
    refine (ended_bad fid cap hE t fl A0 c0 l0 A1 c1 l1 k b w h0 h1 hl0 hl1 hT _ rfl hk).mono ?_
    rintro e w' ⟨rfl, hB⟩
    exact ⟨_, _, rfl, Kd.R_nil _ _ _ _ _, Kd.R_nil _ _ _ _ _, hB⟩

def doneP (t : Int) (l0 l1 : List S38) (fl : Bool) (k b : Int) : Int × List S38 × List S38 × Bool × Int := endP t l0 l1 fl k b (fun s => ⟨3, s.f1, s.f2⟩) (fun s => false)
set_option maxHeartbeats 4000000 in
set_option maxRecDepth 100000 in
theorem done_any (t : Int) (fl : Bool) (A0 : Option Addr) (c0 : Nat) (l0 : List S38) (A1 : Option Addr) (c1 : Nat) (l1 : List S38) (k b : Int) (r1 : Int) (r2 r3 : List S38) (r4 : Bool) (r5 : Int) (w : World)
    (h0 : Kd.C k38 w A0 l0.length l0) (h1 : Kd.C k38 w A1 l1.length l1) (hl0 : l0.length ≤ 6000000000000) (hl1 : l1.length ≤ 6000000000000) (hT : Tab w) (h : doneP t l0 l1 fl k b = (r1, r2, r3, r4, r5)) :
    Calls Tryd.prog 22 #[.agg #[.int .i64 t, .slice A0 l0.length c0, .slice A1 l1.length c1, .bool fl], .agg #[.int .i64 k, .int .i64 b]] w fun e_ w' =>
      ∃ v1 v2 : Value, e_ = .returned (.tuple #[.agg #[.int .i64 r1, v1, v2, .bool r4], .int .i64 r5]) ∧ Kd.R k38 38 w' w.heap.size (fun k => some k ≠ v2.ownBlock) v1 r2 ∧ Kd.R k38 38 w' w.heap.size (fun k => some k ≠ v1.ownBlock) v2 r3 ∧ Below w.heap.size w w' := by
  have hl3 := lays3_of w t (.slice A0 l0.length c0) (.slice A1 l1.length c1) fl k b
  obtain ⟨W3, hW3⟩ : ∃ W3, w3of w t (.slice A0 l0.length c0) (.slice A1 l1.length c1) fl k b = W3 := ⟨_, rfl⟩
  rw [hW3] at hl3
  unfold w3of at hW3
  have hen := ended_any 46 #[] (enters_of Tryd.func46 (by kernel_rfl) rfl) (fun s => ⟨3, s.f1, s.f2⟩) (fun s => false) t fl A0 c0 l0 A1 c1 l1 k b r1 r2 r3 r4 r5 W3 (Kd.C_below h0 hl3.q0) (Kd.C_below h1 hl3.q0) hl0 hl1 (hT.below hl3.q0)
    (fun W gb gs off u0 u1 s g1 g2 g3 g4 g5 g6 g7 => do_done W gb gs off t u0 u1 false s g3 g4 g5) h
  have HW3 := Aside0.mk hW3
  have HL := Aside0.mk hl3
  have HEN := Aside0.mk hen
  clear hW3 hl3 hen h0 h1 hl0 hl1 hT h
  have hu22 := Tryd.underlying22
  have hu29 := Tryd.underlying29
  have hu24 := Tryd.underlying24
  have hz0 := HL.out.q2.c0
  have hz1 := HL.out.q2.c1
  have hz2 := HL.out.q2.c2
  have hz3 := HL.out.q2.c3
  have hy0 : W3.cell? ⟨w.heap.size + 1, 0, none⟩ = some (.int .i64 k) := (blk_cell HL.out.q3 0).trans rfl
  have hy1 : W3.cell? ⟨w.heap.size + 1, 1, none⟩ = some (.int .i64 b) := (blk_cell HL.out.q3 1).trans rfl
  go_enter Tryd.func22, Tryd.ntmps22
  go_upto_region 1 with (fail)
  rw [HW3.out]
  clear HW3
  go_wp2_with (go_at_call 45; go_must (refine HEN.out.mono ?_; rintro e_ W4 ⟨v1, v2, rfl, hr1, hr2, hB6⟩; have HR1 := Aside0.mk (Kd.R_mono (Kd.R_bound hr1) (fun k hk => (⟨hk.1, hk.2.1⟩ : _ ∧ W3.heap.size ≤ k))); have HR2 := Aside0.mk (Kd.R_mono (Kd.R_bound hr2) (fun k hk => (⟨hk.1, hk.2.1⟩ : _ ∧ W3.heap.size ≤ k))); have HB6 := Aside0.mk (below_step HL.out.q0 hB6); have HZ := Aside0.mk (HL.out.below hB6).2.2.1; have HS := Aside0.mk HL.out.q1; have HB5 := Aside0.mk (below_size HL.out.q0); clear hr1 hr2 hB6 HEN HL hz0 hz1 hz2 hz3 hy0 hy1; obtain ⟨B1, d1, e1⟩ := Kd.R_slice HR1.out; subst e1; obtain ⟨B2, d2, e2⟩ := Kd.R_slice HR2.out; subst e2; have hc0 : W4.cell? ⟨w.heap.size + 1 + 1, 0, none⟩ = some (.int .i64 0) := (blk_cell HZ.out 0).trans rfl; have hc1 : W4.cell? ⟨w.heap.size + 1 + 1, 1, none⟩ = some (.slice none 0 0) := (blk_cell HZ.out 1).trans rfl; have hc2 : W4.cell? ⟨w.heap.size + 1 + 1, 2, none⟩ = some (.slice none 0 0) := (blk_cell HZ.out 2).trans rfl; have hc3 : W4.cell? ⟨w.heap.size + 1 + 1, 3, none⟩ = some (.bool false) := (blk_cell HZ.out 3).trans rfl; have hf0 : W4.frozen? ⟨w.heap.size + 1 + 1, 0, none⟩ = false := frozen_of_row _ _ _ _ _ HZ.out; have hf1 : W4.frozen? ⟨w.heap.size + 1 + 1, 1, none⟩ = false := frozen_of_row _ _ _ _ _ HZ.out; have hf2 : W4.frozen? ⟨w.heap.size + 1 + 1, 2, none⟩ = false := frozen_of_row _ _ _ _ _ HZ.out; have hf3 : W4.frozen? ⟨w.heap.size + 1 + 1, 3, none⟩ = false := frozen_of_row _ _ _ _ _ HZ.out))
  refine bodyPost_ret (results_ct rfl _ _ (w.heap.size + 1 + 1) 24 #[.int .i64 r1, .slice B1 r2.length d1, .slice B2 r3.length d2, .bool r4] (0, 0) _ rfl (by refine blk_put (cs := #[.int .i64 r1, .slice B1 r2.length d1, .slice B2 r3.length d2, .bool false]) ?_ 3 _ rfl; refine blk_put (cs := #[.int .i64 r1, .slice B1 r2.length d1, .slice none 0 0, .bool false]) ?_ 2 _ rfl; refine blk_put (cs := #[.int .i64 r1, .slice none 0 0, .slice none 0 0, .bool false]) ?_ 1 _ rfl; refine blk_put (cs := #[.int .i64 0, .slice none 0 0, .slice none 0 0, .bool false]) ?_ 0 _ rfl; exact HZ.out) Tryd.underlying24 rfl (by kernel_rfl)) rfl ?_
  have hs := HS.out
  refine ⟨_, _, rfl, ?_, ?_, (((HB6.out.setCell (by simp; omega) _).setCell (by simp; omega) _).setCell (by simp; omega) _).setCell (by simp; omega) _⟩
  · exact Kd.R_lower (Kd.R_mono (Kd.R_far (p := ⟨w.heap.size + 1 + 1, 3, none⟩) (Kd.R_far (p := ⟨w.heap.size + 1 + 1, 2, none⟩) (Kd.R_far (p := ⟨w.heap.size + 1 + 1, 1, none⟩) (Kd.R_far (p := ⟨w.heap.size + 1 + 1, 0, none⟩) HR1.out (fun k hk => by have := hk.2; simp; omega) _) (fun k hk => by have := hk.2; simp; omega) _) (fun k hk => by have := hk.2; simp; omega) _) (fun k hk => by have := hk.2; simp; omega) _) (fun k hk => hk.1)) HB5.out
  · exact Kd.R_lower (Kd.R_mono (Kd.R_far (p := ⟨w.heap.size + 1 + 1, 3, none⟩) (Kd.R_far (p := ⟨w.heap.size + 1 + 1, 2, none⟩) (Kd.R_far (p := ⟨w.heap.size + 1 + 1, 1, none⟩) (Kd.R_far (p := ⟨w.heap.size + 1 + 1, 0, none⟩) HR2.out (fun k hk => by have := hk.2; simp; omega) _) (fun k hk => by have := hk.2; simp; omega) _) (fun k hk => by have := hk.2; simp; omega) _) (fun k hk => by have := hk.2; simp; omega) _) (fun k hk => hk.1)) HB5.out

def diedP (t : Int) (l0 l1 : List S38) (fl : Bool) (k b : Int) : Int × List S38 × List S38 × Bool × Int := endP t l0 l1 fl k b (fun s => ⟨0, s.f1, s.f2 + 1⟩) (fun s => false || decide (s.f2 + 1 = t))
set_option maxHeartbeats 4000000 in
set_option maxRecDepth 100000 in
theorem died_any (t : Int) (fl : Bool) (A0 : Option Addr) (c0 : Nat) (l0 : List S38) (A1 : Option Addr) (c1 : Nat) (l1 : List S38) (k b : Int) (r1 : Int) (r2 r3 : List S38) (r4 : Bool) (r5 : Int) (w : World)
    (h0 : Kd.C k38 w A0 l0.length l0) (h1 : Kd.C k38 w A1 l1.length l1) (hl0 : l0.length ≤ 6000000000000) (hl1 : l1.length ≤ 6000000000000) (hT : Tab w) (h : diedP t l0 l1 fl k b = (r1, r2, r3, r4, r5)) :
    Calls Tryd.prog 24 #[.agg #[.int .i64 t, .slice A0 l0.length c0, .slice A1 l1.length c1, .bool fl], .agg #[.int .i64 k, .int .i64 b]] w fun e_ w' =>
      ∃ v1 v2 : Value, e_ = .returned (.tuple #[.agg #[.int .i64 r1, v1, v2, .bool r4], .int .i64 r5]) ∧ Kd.R k38 38 w' w.heap.size (fun k => some k ≠ v2.ownBlock) v1 r2 ∧ Kd.R k38 38 w' w.heap.size (fun k => some k ≠ v1.ownBlock) v2 r3 ∧ Below w.heap.size w w' := by
  have hl3 := lays3_of w t (.slice A0 l0.length c0) (.slice A1 l1.length c1) fl k b
  obtain ⟨W3, hW3⟩ : ∃ W3, w3of w t (.slice A0 l0.length c0) (.slice A1 l1.length c1) fl k b = W3 := ⟨_, rfl⟩
  rw [hW3] at hl3
  unfold w3of at hW3
  have hen := ended_any 50 #[] (enters_of Tryd.func50 (by kernel_rfl) rfl) (fun s => ⟨0, s.f1, s.f2 + 1⟩) (fun s => false || decide (s.f2 + 1 = t)) t fl A0 c0 l0 A1 c1 l1 k b r1 r2 r3 r4 r5 W3 (Kd.C_below h0 hl3.q0) (Kd.C_below h1 hl3.q0) hl0 hl1 (hT.below hl3.q0)
    (fun W gb gs off u0 u1 s g1 g2 g3 g4 g5 g6 g7 => do_charge W gb gs off t u0 u1 false s g3 g4 g5 g1 g2) h
  have HW3 := Aside0.mk hW3
  have HL := Aside0.mk hl3
  have HEN := Aside0.mk hen
  clear hW3 hl3 hen h0 h1 hl0 hl1 hT h
  have hu22 := Tryd.underlying22
  have hu29 := Tryd.underlying29
  have hu24 := Tryd.underlying24
  have hz0 := HL.out.q2.c0
  have hz1 := HL.out.q2.c1
  have hz2 := HL.out.q2.c2
  have hz3 := HL.out.q2.c3
  have hy0 : W3.cell? ⟨w.heap.size + 1, 0, none⟩ = some (.int .i64 k) := (blk_cell HL.out.q3 0).trans rfl
  have hy1 : W3.cell? ⟨w.heap.size + 1, 1, none⟩ = some (.int .i64 b) := (blk_cell HL.out.q3 1).trans rfl
  go_enter Tryd.func24, Tryd.ntmps24
  go_upto_region 1 with (fail)
  rw [HW3.out]
  clear HW3
  go_wp2_with (go_at_call 45; go_must (refine HEN.out.mono ?_; rintro e_ W4 ⟨v1, v2, rfl, hr1, hr2, hB6⟩; have HR1 := Aside0.mk (Kd.R_mono (Kd.R_bound hr1) (fun k hk => (⟨hk.1, hk.2.1⟩ : _ ∧ W3.heap.size ≤ k))); have HR2 := Aside0.mk (Kd.R_mono (Kd.R_bound hr2) (fun k hk => (⟨hk.1, hk.2.1⟩ : _ ∧ W3.heap.size ≤ k))); have HB6 := Aside0.mk (below_step HL.out.q0 hB6); have HZ := Aside0.mk (HL.out.below hB6).2.2.1; have HS := Aside0.mk HL.out.q1; have HB5 := Aside0.mk (below_size HL.out.q0); clear hr1 hr2 hB6 HEN HL hz0 hz1 hz2 hz3 hy0 hy1; obtain ⟨B1, d1, e1⟩ := Kd.R_slice HR1.out; subst e1; obtain ⟨B2, d2, e2⟩ := Kd.R_slice HR2.out; subst e2; have hc0 : W4.cell? ⟨w.heap.size + 1 + 1, 0, none⟩ = some (.int .i64 0) := (blk_cell HZ.out 0).trans rfl; have hc1 : W4.cell? ⟨w.heap.size + 1 + 1, 1, none⟩ = some (.slice none 0 0) := (blk_cell HZ.out 1).trans rfl; have hc2 : W4.cell? ⟨w.heap.size + 1 + 1, 2, none⟩ = some (.slice none 0 0) := (blk_cell HZ.out 2).trans rfl; have hc3 : W4.cell? ⟨w.heap.size + 1 + 1, 3, none⟩ = some (.bool false) := (blk_cell HZ.out 3).trans rfl; have hf0 : W4.frozen? ⟨w.heap.size + 1 + 1, 0, none⟩ = false := frozen_of_row _ _ _ _ _ HZ.out; have hf1 : W4.frozen? ⟨w.heap.size + 1 + 1, 1, none⟩ = false := frozen_of_row _ _ _ _ _ HZ.out; have hf2 : W4.frozen? ⟨w.heap.size + 1 + 1, 2, none⟩ = false := frozen_of_row _ _ _ _ _ HZ.out; have hf3 : W4.frozen? ⟨w.heap.size + 1 + 1, 3, none⟩ = false := frozen_of_row _ _ _ _ _ HZ.out))
  refine bodyPost_ret (results_ct rfl _ _ (w.heap.size + 1 + 1) 24 #[.int .i64 r1, .slice B1 r2.length d1, .slice B2 r3.length d2, .bool r4] (0, 0) _ rfl (by refine blk_put (cs := #[.int .i64 r1, .slice B1 r2.length d1, .slice B2 r3.length d2, .bool false]) ?_ 3 _ rfl; refine blk_put (cs := #[.int .i64 r1, .slice B1 r2.length d1, .slice none 0 0, .bool false]) ?_ 2 _ rfl; refine blk_put (cs := #[.int .i64 r1, .slice none 0 0, .slice none 0 0, .bool false]) ?_ 1 _ rfl; refine blk_put (cs := #[.int .i64 0, .slice none 0 0, .slice none 0 0, .bool false]) ?_ 0 _ rfl; exact HZ.out) Tryd.underlying24 rfl (by kernel_rfl)) rfl ?_
  have hs := HS.out
  refine ⟨_, _, rfl, ?_, ?_, (((HB6.out.setCell (by simp; omega) _).setCell (by simp; omega) _).setCell (by simp; omega) _).setCell (by simp; omega) _⟩
  · exact Kd.R_lower (Kd.R_mono (Kd.R_far (p := ⟨w.heap.size + 1 + 1, 3, none⟩) (Kd.R_far (p := ⟨w.heap.size + 1 + 1, 2, none⟩) (Kd.R_far (p := ⟨w.heap.size + 1 + 1, 1, none⟩) (Kd.R_far (p := ⟨w.heap.size + 1 + 1, 0, none⟩) HR1.out (fun k hk => by have := hk.2; simp; omega) _) (fun k hk => by have := hk.2; simp; omega) _) (fun k hk => by have := hk.2; simp; omega) _) (fun k hk => by have := hk.2; simp; omega) _) (fun k hk => hk.1)) HB5.out
  · exact Kd.R_lower (Kd.R_mono (Kd.R_far (p := ⟨w.heap.size + 1 + 1, 3, none⟩) (Kd.R_far (p := ⟨w.heap.size + 1 + 1, 2, none⟩) (Kd.R_far (p := ⟨w.heap.size + 1 + 1, 1, none⟩) (Kd.R_far (p := ⟨w.heap.size + 1 + 1, 0, none⟩) HR2.out (fun k hk => by have := hk.2; simp; omega) _) (fun k hk => by have := hk.2; simp; omega) _) (fun k hk => by have := hk.2; simp; omega) _) (fun k hk => by have := hk.2; simp; omega) _) (fun k hk => hk.1)) HB5.out
end Go.Proofs.YtponmfnegdlppaaDoor.P

end
