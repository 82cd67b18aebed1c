/- Several texts laid together (wip/tools/merge2.py): HEnded, HDone, HBlame, HBlameF, Pf40. -/
import Derived.Test.YtponmfnegdlppaaDoorMS1
section
/- ledger.ended, by hand (printed by HEnded.gen.py). -/
namespace Go.Proofs.YtponmfnegdlppaaDoor.P
open Go.RowKit Go.Proofs.YtponmfnegdlppaaDoorW.PrintWords Go.Proofs.YtponmfnegdlppaaDoorW.PrintLast Go.Proofs.YtponmfnegdlppaaDoorW.PrintMore
set_option linter.unusedVariables false
set_option linter.unusedSimpArgs false

theorem C_one (W : World) (k b : Int) : Kd.C k29 (W.alloc (.cells #[.int .i64 k, .int .i64 b] 29)) (some ⟨W.heap.size, 0, none⟩) 1 [⟨k, b⟩] := by
  have h : Kd.R k29 29 (W.alloc (.cells #[.int .i64 k, .int .i64 b] 29)) W.heap.size (fun _ => True) (.slice (some ⟨W.heap.size, 0, none⟩) 1 1) [⟨k, b⟩] :=
    ⟨fun _ _ => trivial, [.int .i64 k, .int .i64 b], World.ownsRow_lit (base := W.heap.size) (e := 29) (size := k29.sz) W #[.int .i64 k, .int .i64 b] 1 (Nat.le_refl _) (by simp [maxLen]) (by rfl), Reps.c2 (k29_mkM _ _ _ ⟨k, b⟩) (Reps.none _ _)⟩
  exact (Kd.R_reads' h).2.2
/-- the three blocks that a call over a book and a task lays first -/
structure lays3 (w W3 : World) (t : Int) (u0 u1 : Value) (fl : Bool) (k b : Int) : Prop where
  q0 : Below w.heap.size w W3
  q1 : W3.heap.size = w.heap.size + 3
  q2 : bookAt W3 w.heap.size t u0 u1 fl
  q3 : W3.heap[w.heap.size + 1]? = some (.cells #[.int .i64 k, .int .i64 b] 29 (0, 0))
  q4 : W3.heap[w.heap.size + 1 + 1]? = some (.cells #[.int .i64 0, .slice none 0 0, .slice none 0 0, .bool false] 24 (0, 0))
def w3of (w : World) (t : Int) (u0 u1 : Value) (fl : Bool) (k b : Int) : World := ((w.alloc (.cells #[.int .i64 t, u0, u1, .bool fl] 24)).alloc (.cells #[.int .i64 k, .int .i64 b] 29)).alloc (.cells #[.int .i64 0, .slice none 0 0, .slice none 0 0, .bool false] 24)
theorem lays3_of (w : World) (t : Int) (u0 u1 : Value) (fl : Bool) (k b : Int) : lays3 w (w3of w t u0 u1 fl k b) t u0 u1 fl k b := by
  unfold w3of
  refine ⟨below_alloc (below_alloc (below_alloc (Below.refl _ _) _) _) _, by simp, ?_, ?_, ?_⟩
  · have e1 := heap_alloc_new w (.cells #[.int .i64 t, u0, u1, .bool fl] 24)
    exact ((below_alloc (below_alloc (Below.refl _ _) _) _).block w.heap.size (by simp)).trans e1
  · have e1 := heap_alloc_new (w.alloc (.cells #[.int .i64 t, u0, u1, .bool fl] 24)) (.cells #[.int .i64 k, .int .i64 b] 29)
    rw [show (w.alloc (.cells #[.int .i64 t, u0, u1, .bool fl] 24)).heap.size = w.heap.size + 1 from by simp] at e1
    exact ((below_alloc (Below.refl _ _) _).block (w.heap.size + 1) (by simp)).trans e1
  · have e1 := heap_alloc_new ((w.alloc (.cells #[.int .i64 t, u0, u1, .bool fl] 24)).alloc (.cells #[.int .i64 k, .int .i64 b] 29)) (.cells #[.int .i64 0, .slice none 0 0, .slice none 0 0, .bool false] 24)
    rw [show ((w.alloc (.cells #[.int .i64 t, u0, u1, .bool fl] 24)).alloc (.cells #[.int .i64 k, .int .i64 b] 29)).heap.size = w.heap.size + 1 + 1 from by simp] at e1
    exact e1
theorem lays3.below {w W3 W : World} {t : Int} {u0 u1 : Value} {fl : Bool} {k b : Int} (h : lays3 w W3 t u0 u1 fl k b) (hb : Below W3.heap.size W3 W) :
    bookAt W w.heap.size t u0 u1 fl ∧ W.heap[w.heap.size + 1]? = some (.cells #[.int .i64 k, .int .i64 b] 29 (0, 0)) ∧ W.heap[w.heap.size + 1 + 1]? = some (.cells #[.int .i64 0, .slice none 0 0, .slice none 0 0, .bool false] 24 (0, 0)) ∧ Below w.heap.size w W ∧ w.heap.size + 3 ≤ W.heap.size :=
  ⟨h.q2.below hb h.q2.lt, (hb.block _ (by have := h.q1; omega)).trans h.q3, (hb.block _ (by have := h.q1; omega)).trans h.q4, below_step h.q0 hb, by have := hb.size; have := h.q1; omega⟩

set_option maxHeartbeats 4000000 in
set_option maxRecDepth 100000 in
theorem ended_bad (fid : Nat) (cap : Array Value) (hE : Enters Tryd.prog fid) (t : Int) (fl : Bool) (A0 : Option Addr) (c0 : Nat) (l0 : List S38) (A1 : Option Addr) (c1 : Nat) (l1 : List S38) (k b : Int) (w : World)
    (h0 : Kd.C k38 w A0 l0.length l0) (h1 : Kd.C k38 w A1 l1.length l1) (hl0 : l0.length ≤ 6000000000000) (hl1 : l1.length ≤ 6000000000000) (hT : Tab w) (e : Int) (he : knownP t l0 l1 fl [⟨k, b⟩] = e) (hne : e ≠ 0) :
    Calls Tryd.prog 45 #[.agg #[.int .i64 t, .slice A0 l0.length c0, .slice A1 l1.length c1, .bool fl], .agg #[.int .i64 k, .int .i64 b], .func (.func fid) #[] cap] w fun e_ w' => e_ = .returned (.tuple #[.agg #[.int .i64 0, .slice none 0 0, .slice none 0 0, .bool false], .int .i64 e]) ∧ Below w.heap.size w w' := by
  have hl3 := lays3_of w t (.slice A0 l0.length c0) (.slice A1 l1.length c1) fl k b
  have hba : Below w.heap.size w ((w3of w t (.slice A0 l0.length c0) (.slice A1 l1.length c1) fl k b).alloc (.cells #[.int .i64 k, .int .i64 b] 29)) := below_alloc hl3.q0 _
  have hkn := known_any t fl A0 c0 l0 A1 c1 l1 (some ⟨(w3of w t (.slice A0 l0.length c0) (.slice A1 l1.length c1) fl k b).heap.size, 0, none⟩) 1 [⟨k, b⟩] ((w3of w t (.slice A0 l0.length c0) (.slice A1 l1.length c1) fl k b).alloc (.cells #[.int .i64 k, .int .i64 b] 29)) (Kd.C_below h0 hba) (Kd.C_below h1 hba) (C_one (w3of w t (.slice A0 l0.length c0) (.slice A1 l1.length c1) fl k b) k b) (by simp) hl0 hl1 (hT.below hba)
  rw [he] at hkn
  have H0 := Aside0.mk h0
  have H1 := Aside0.mk h1
  obtain ⟨W3, hW3⟩ : ∃ W3, (w3of w t (.slice A0 l0.length c0) (.slice A1 l1.length c1) fl k b) = W3 := ⟨_, rfl⟩
  rw [hW3] at hl3 hba hkn
  unfold w3of at hW3
  have HW3 := Aside0.mk hW3
  have HL := Aside0.mk hl3
  have HKN := Aside0.mk hkn
  have ha := below_alloc (Below.refl W3.heap.size W3) (.cells #[.int .i64 k, .int .i64 b] 29)
  have HBA := Aside0.mk ha
  clear hba hkn h0 h1 he hl3 hT hl0 hl1 ha hW3
  have hu22 := Tryd.underlying22
  have hu29 := Tryd.underlying29
  have hu24 := Tryd.underlying24
  have hu38 := Tryd.underlying38
  have hu26 := Tryd.underlying26
  have hz0 := HL.out.q2.c0
  have hz1 := HL.out.q2.c1
  have hz2 := HL.out.q2.c2
  have hz3 := HL.out.q2.c3
  have hy0 : W3.cell? ⟨w.heap.size + 1, 0, none⟩ = some (.int .i64 k) := (blk_cell HL.out.q3 0).trans rfl
  have hy1 : W3.cell? ⟨w.heap.size + 1, 1, none⟩ = some (.int .i64 b) := (blk_cell HL.out.q3 1).trans rfl
  go_enter Tryd.func45, Tryd.ntmps45
  go_upto_region 1 with (fail)
  rw [HW3.out]
  clear HW3
  have hn1 : (e != 0) = true := bne_iff_ne.2 hne
  clear hne
  go_wp2_with (go_at_call 54; go_must (refine HKN.out.mono ?_; rintro e_ W4 ⟨rfl, hB4⟩; have HF := Aside0.mk (HL.out.below (below_step HBA.out hB4)); clear hB4 HL HKN HBA hz0 hz1 hz2 hz3 hy0 hy1; have hx3 := HF.out.1.c3; have hc0 : W4.cell? ⟨w.heap.size + 1 + 1, 0, none⟩ = some (.int .i64 0) := (blk_cell HF.out.2.2.1 0).trans rfl; have hc1 : W4.cell? ⟨w.heap.size + 1 + 1, 1, none⟩ = some (.slice none 0 0) := (blk_cell HF.out.2.2.1 1).trans rfl; have hc2 : W4.cell? ⟨w.heap.size + 1 + 1, 2, none⟩ = some (.slice none 0 0) := (blk_cell HF.out.2.2.1 2).trans rfl; have hc3 : W4.cell? ⟨w.heap.size + 1 + 1, 3, none⟩ = some (.bool false) := (blk_cell HF.out.2.2.1 3).trans rfl; have hf0 : W4.frozen? ⟨w.heap.size + 1 + 1, 0, none⟩ = false := frozen_of_row _ _ _ _ _ HF.out.2.2.1; have hf1 : W4.frozen? ⟨w.heap.size + 1 + 1, 1, none⟩ = false := frozen_of_row _ _ _ _ _ HF.out.2.2.1; have hf2 : W4.frozen? ⟨w.heap.size + 1 + 1, 2, none⟩ = false := frozen_of_row _ _ _ _ _ HF.out.2.2.1; have hf3 : W4.frozen? ⟨w.heap.size + 1 + 1, 3, none⟩ = false := frozen_of_row _ _ _ _ _ HF.out.2.2.1))
  refine bodyPost_ret (results_ct rfl _ _ (w.heap.size + 1 + 1) 24 #[.int .i64 0, .slice none 0 0, .slice none 0 0, .bool false] (0, 0) _ rfl (by refine blk_put (cs := #[.int .i64 0, .slice none 0 0, .slice none 0 0, .bool false]) ?_ 3 _ rfl; refine blk_put (cs := #[.int .i64 0, .slice none 0 0, .slice none 0 0, .bool false]) ?_ 2 _ rfl; refine blk_put (cs := #[.int .i64 0, .slice none 0 0, .slice none 0 0, .bool false]) ?_ 1 _ rfl; refine blk_put (cs := #[.int .i64 0, .slice none 0 0, .slice none 0 0, .bool false]) ?_ 0 _ rfl; exact HF.out.2.2.1) Tryd.underlying24 rfl (by kernel_rfl)) rfl ?_
  exact ⟨rfl, (((HF.out.2.2.2.1.setCell (by simp; omega) _).setCell (by simp; omega) _).setCell (by simp; omega) _).setCell (by simp; omega) _⟩

set_option maxHeartbeats 4000000 in
set_option maxRecDepth 100000 in
theorem ended_failed_map (fid : Nat) (cap : Array Value) (hE : Enters Tryd.prog fid) (t : Int) (fl : Bool) (A0 : Option Addr) (c0 : Nat) (l0 : List S38) (A1 : Option Addr) (c1 : Nat) (l1 : List S38) (b : Nat) (w : World)
    (h0 : Kd.C k38 w A0 l0.length l0) (h1 : Kd.C k38 w A1 l1.length l1) (hl0 : l0.length ≤ 6000000000000) (hl1 : l1.length ≤ 6000000000000) (hT : Tab w) (he : knownP t l0 l1 fl [⟨0, b⟩] = 0) (hfl : fl = true) :
    Calls Tryd.prog 45 #[.agg #[.int .i64 t, .slice A0 l0.length c0, .slice A1 l1.length c1, .bool fl], .agg #[.int .i64 0, .int .i64 b], .func (.func fid) #[] cap] w fun e_ w' => e_ = .returned (.tuple #[.agg #[.int .i64 0, .slice none 0 0, .slice none 0 0, .bool false], .int .i64 192]) ∧ Below w.heap.size w w' := by
  subst hfl
  have hl3 := lays3_of w t (.slice A0 l0.length c0) (.slice A1 l1.length c1) true 0 b
  have hba : Below w.heap.size w ((w3of w t (.slice A0 l0.length c0) (.slice A1 l1.length c1) true 0 b).alloc (.cells #[.int .i64 0, .int .i64 b] 29)) := below_alloc hl3.q0 _
  have hkn := known_any t true A0 c0 l0 A1 c1 l1 (some ⟨(w3of w t (.slice A0 l0.length c0) (.slice A1 l1.length c1) true 0 b).heap.size, 0, none⟩) 1 [⟨0, b⟩] ((w3of w t (.slice A0 l0.length c0) (.slice A1 l1.length c1) true 0 b).alloc (.cells #[.int .i64 0, .int .i64 b] 29)) (Kd.C_below h0 hba) (Kd.C_below h1 hba) (C_one (w3of w t (.slice A0 l0.length c0) (.slice A1 l1.length c1) true 0 b) 0 b) (by simp) hl0 hl1 (hT.below hba)
  rw [he] at hkn
  have H0 := Aside0.mk h0
  have H1 := Aside0.mk h1
  obtain ⟨W3, hW3⟩ : ∃ W3, (w3of w t (.slice A0 l0.length c0) (.slice A1 l1.length c1) true 0 b) = W3 := ⟨_, rfl⟩
  rw [hW3] at hl3 hba hkn
  unfold w3of at hW3
  have HW3 := Aside0.mk hW3
  have HL := Aside0.mk hl3
  have HKN := Aside0.mk hkn
  have ha := below_alloc (Below.refl W3.heap.size W3) (.cells #[.int .i64 0, .int .i64 b] 29)
  have HBA := Aside0.mk ha
  clear hba hkn h0 h1 he hl3 hT hl0 hl1 ha hW3
  have hu22 := Tryd.underlying22
  have hu29 := Tryd.underlying29
  have hu24 := Tryd.underlying24
  have hu38 := Tryd.underlying38
  have hu26 := Tryd.underlying26
  have hz0 := HL.out.q2.c0
  have hz1 := HL.out.q2.c1
  have hz2 := HL.out.q2.c2
  have hz3 := HL.out.q2.c3
  have hy0 : W3.cell? ⟨w.heap.size + 1, 0, none⟩ = some (.int .i64 0) := (blk_cell HL.out.q3 0).trans rfl
  have hy1 : W3.cell? ⟨w.heap.size + 1, 1, none⟩ = some (.int .i64 b) := (blk_cell HL.out.q3 1).trans rfl
  go_enter Tryd.func45, Tryd.ntmps45
  go_upto_region 1 with (fail)
  rw [HW3.out]
  clear HW3
  go_wp2_with (go_at_call 54; go_must (refine HKN.out.mono ?_; rintro e_ W4 ⟨rfl, hB4⟩; have HF := Aside0.mk (HL.out.below (below_step HBA.out hB4)); clear hB4 HL HKN HBA hz0 hz1 hz2 hz3 hy0 hy1; have hx3 := HF.out.1.c3; have hc0 : W4.cell? ⟨w.heap.size + 1 + 1, 0, none⟩ = some (.int .i64 0) := (blk_cell HF.out.2.2.1 0).trans rfl; have hc1 : W4.cell? ⟨w.heap.size + 1 + 1, 1, none⟩ = some (.slice none 0 0) := (blk_cell HF.out.2.2.1 1).trans rfl; have hc2 : W4.cell? ⟨w.heap.size + 1 + 1, 2, none⟩ = some (.slice none 0 0) := (blk_cell HF.out.2.2.1 2).trans rfl; have hc3 : W4.cell? ⟨w.heap.size + 1 + 1, 3, none⟩ = some (.bool false) := (blk_cell HF.out.2.2.1 3).trans rfl; have hf0 : W4.frozen? ⟨w.heap.size + 1 + 1, 0, none⟩ = false := frozen_of_row _ _ _ _ _ HF.out.2.2.1; have hf1 : W4.frozen? ⟨w.heap.size + 1 + 1, 1, none⟩ = false := frozen_of_row _ _ _ _ _ HF.out.2.2.1; have hf2 : W4.frozen? ⟨w.heap.size + 1 + 1, 2, none⟩ = false := frozen_of_row _ _ _ _ _ HF.out.2.2.1; have hf3 : W4.frozen? ⟨w.heap.size + 1 + 1, 3, none⟩ = false := frozen_of_row _ _ _ _ _ HF.out.2.2.1))
  refine bodyPost_ret (results_ct rfl _ _ (w.heap.size + 1 + 1) 24 #[.int .i64 0, .slice none 0 0, .slice none 0 0, .bool false] (0, 0) _ rfl (by refine blk_put (cs := #[.int .i64 0, .slice none 0 0, .slice none 0 0, .bool false]) ?_ 3 _ rfl; refine blk_put (cs := #[.int .i64 0, .slice none 0 0, .slice none 0 0, .bool false]) ?_ 2 _ rfl; refine blk_put (cs := #[.int .i64 0, .slice none 0 0, .slice none 0 0, .bool false]) ?_ 1 _ rfl; refine blk_put (cs := #[.int .i64 0, .slice none 0 0, .slice none 0 0, .bool false]) ?_ 0 _ rfl; exact HF.out.2.2.1) Tryd.underlying24 rfl (by kernel_rfl)) rfl ?_
  exact ⟨rfl, (((HF.out.2.2.2.1.setCell (by simp; omega) _).setCell (by simp; omega) _).setCell (by simp; omega) _).setCell (by simp; omega) _⟩

set_option maxHeartbeats 4000000 in
set_option maxRecDepth 100000 in
theorem ended_failed_red (fid : Nat) (cap : Array Value) (hE : Enters Tryd.prog fid) (t : Int) (fl : Bool) (A0 : Option Addr) (c0 : Nat) (l0 : List S38) (A1 : Option Addr) (c1 : Nat) (l1 : List S38) (b : Nat) (w : World)
    (h0 : Kd.C k38 w A0 l0.length l0) (h1 : Kd.C k38 w A1 l1.length l1) (hl0 : l0.length ≤ 6000000000000) (hl1 : l1.length ≤ 6000000000000) (hT : Tab w) (he : knownP t l0 l1 fl [⟨1, b⟩] = 0) (hfl : fl = true) :
    Calls Tryd.prog 45 #[.agg #[.int .i64 t, .slice A0 l0.length c0, .slice A1 l1.length c1, .bool fl], .agg #[.int .i64 1, .int .i64 b], .func (.func fid) #[] cap] w fun e_ w' => e_ = .returned (.tuple #[.agg #[.int .i64 0, .slice none 0 0, .slice none 0 0, .bool false], .int .i64 192]) ∧ Below w.heap.size w w' := by
  subst hfl
  have hl3 := lays3_of w t (.slice A0 l0.length c0) (.slice A1 l1.length c1) true 1 b
  have hba : Below w.heap.size w ((w3of w t (.slice A0 l0.length c0) (.slice A1 l1.length c1) true 1 b).alloc (.cells #[.int .i64 1, .int .i64 b] 29)) := below_alloc hl3.q0 _
  have hkn := known_any t true A0 c0 l0 A1 c1 l1 (some ⟨(w3of w t (.slice A0 l0.length c0) (.slice A1 l1.length c1) true 1 b).heap.size, 0, none⟩) 1 [⟨1, b⟩] ((w3of w t (.slice A0 l0.length c0) (.slice A1 l1.length c1) true 1 b).alloc (.cells #[.int .i64 1, .int .i64 b] 29)) (Kd.C_below h0 hba) (Kd.C_below h1 hba) (C_one (w3of w t (.slice A0 l0.length c0) (.slice A1 l1.length c1) true 1 b) 1 b) (by simp) hl0 hl1 (hT.below hba)
  rw [he] at hkn
  have H0 := Aside0.mk h0
  have H1 := Aside0.mk h1
  obtain ⟨W3, hW3⟩ : ∃ W3, (w3of w t (.slice A0 l0.length c0) (.slice A1 l1.length c1) true 1 b) = W3 := ⟨_, rfl⟩
  rw [hW3] at hl3 hba hkn
  unfold w3of at hW3
  have HW3 := Aside0.mk hW3
  have HL := Aside0.mk hl3
  have HKN := Aside0.mk hkn
  have ha := below_alloc (Below.refl W3.heap.size W3) (.cells #[.int .i64 1, .int .i64 b] 29)
  have HBA := Aside0.mk ha
  clear hba hkn h0 h1 he hl3 hT hl0 hl1 ha hW3
  have hu22 := Tryd.underlying22
  have hu29 := Tryd.underlying29
  have hu24 := Tryd.underlying24
  have hu38 := Tryd.underlying38
  have hu26 := Tryd.underlying26
  have hz0 := HL.out.q2.c0
  have hz1 := HL.out.q2.c1
  have hz2 := HL.out.q2.c2
  have hz3 := HL.out.q2.c3
  have hy0 : W3.cell? ⟨w.heap.size + 1, 0, none⟩ = some (.int .i64 1) := (blk_cell HL.out.q3 0).trans rfl
  have hy1 : W3.cell? ⟨w.heap.size + 1, 1, none⟩ = some (.int .i64 b) := (blk_cell HL.out.q3 1).trans rfl
  go_enter Tryd.func45, Tryd.ntmps45
  go_upto_region 1 with (fail)
  rw [HW3.out]
  clear HW3
  go_wp2_with (go_at_call 54; go_must (refine HKN.out.mono ?_; rintro e_ W4 ⟨rfl, hB4⟩; have HF := Aside0.mk (HL.out.below (below_step HBA.out hB4)); clear hB4 HL HKN HBA hz0 hz1 hz2 hz3 hy0 hy1; have hx3 := HF.out.1.c3; have hc0 : W4.cell? ⟨w.heap.size + 1 + 1, 0, none⟩ = some (.int .i64 0) := (blk_cell HF.out.2.2.1 0).trans rfl; have hc1 : W4.cell? ⟨w.heap.size + 1 + 1, 1, none⟩ = some (.slice none 0 0) := (blk_cell HF.out.2.2.1 1).trans rfl; have hc2 : W4.cell? ⟨w.heap.size + 1 + 1, 2, none⟩ = some (.slice none 0 0) := (blk_cell HF.out.2.2.1 2).trans rfl; have hc3 : W4.cell? ⟨w.heap.size + 1 + 1, 3, none⟩ = some (.bool false) := (blk_cell HF.out.2.2.1 3).trans rfl; have hf0 : W4.frozen? ⟨w.heap.size + 1 + 1, 0, none⟩ = false := frozen_of_row _ _ _ _ _ HF.out.2.2.1; have hf1 : W4.frozen? ⟨w.heap.size + 1 + 1, 1, none⟩ = false := frozen_of_row _ _ _ _ _ HF.out.2.2.1; have hf2 : W4.frozen? ⟨w.heap.size + 1 + 1, 2, none⟩ = false := frozen_of_row _ _ _ _ _ HF.out.2.2.1; have hf3 : W4.frozen? ⟨w.heap.size + 1 + 1, 3, none⟩ = false := frozen_of_row _ _ _ _ _ HF.out.2.2.1))
  refine bodyPost_ret (results_ct rfl _ _ (w.heap.size + 1 + 1) 24 #[.int .i64 0, .slice none 0 0, .slice none 0 0, .bool false] (0, 0) _ rfl (by refine blk_put (cs := #[.int .i64 0, .slice none 0 0, .slice none 0 0, .bool false]) ?_ 3 _ rfl; refine blk_put (cs := #[.int .i64 0, .slice none 0 0, .slice none 0 0, .bool false]) ?_ 2 _ rfl; refine blk_put (cs := #[.int .i64 0, .slice none 0 0, .slice none 0 0, .bool false]) ?_ 1 _ rfl; refine blk_put (cs := #[.int .i64 0, .slice none 0 0, .slice none 0 0, .bool false]) ?_ 0 _ rfl; exact HF.out.2.2.1) Tryd.underlying24 rfl (by kernel_rfl)) rfl ?_
  exact ⟨rfl, (((HF.out.2.2.2.1.setCell (by simp; omega) _).setCell (by simp; omega) _).setCell (by simp; omega) _).setCell (by simp; omega) _⟩

set_option maxHeartbeats 4000000 in
set_option maxRecDepth 100000 in
theorem ended_wait_map (fid : Nat) (cap : Array Value) (hE : Enters Tryd.prog fid) (t : Int) (fl : Bool) (A0 : Option Addr) (c0 : Nat) (l0 : List S38) (A1 : Option Addr) (c1 : Nat) (l1 : List S38) (b : Nat) (w : World)
    (h0 : Kd.C k38 w A0 l0.length l0) (h1 : Kd.C k38 w A1 l1.length l1) (hl0 : l0.length ≤ 6000000000000) (hl1 : l1.length ≤ 6000000000000) (hT : Tab w) (he : knownP t l0 l1 fl [⟨0, b⟩] = 0) (hfl : fl = false) (hb : b < l0.length) (hst : (rd_T38 l0 (b : Int)).f0 ≠ 1) :
    Calls Tryd.prog 45 #[.agg #[.int .i64 t, .slice A0 l0.length c0, .slice A1 l1.length c1, .bool fl], .agg #[.int .i64 0, .int .i64 b], .func (.func fid) #[] cap] w fun e_ w' => e_ = .returned (.tuple #[.agg #[.int .i64 0, .slice none 0 0, .slice none 0 0, .bool false], .int .i64 192]) ∧ Below w.heap.size w w' := by
  subst hfl
  have hl3 := lays3_of w t (.slice A0 l0.length c0) (.slice A1 l1.length c1) false 0 b
  have hba : Below w.heap.size w ((w3of w t (.slice A0 l0.length c0) (.slice A1 l1.length c1) false 0 b).alloc (.cells #[.int .i64 0, .int .i64 b] 29)) := below_alloc hl3.q0 _
  have hkn := known_any t false A0 c0 l0 A1 c1 l1 (some ⟨(w3of w t (.slice A0 l0.length c0) (.slice A1 l1.length c1) false 0 b).heap.size, 0, none⟩) 1 [⟨0, b⟩] ((w3of w t (.slice A0 l0.length c0) (.slice A1 l1.length c1) false 0 b).alloc (.cells #[.int .i64 0, .int .i64 b] 29)) (Kd.C_below h0 hba) (Kd.C_below h1 hba) (C_one (w3of w t (.slice A0 l0.length c0) (.slice A1 l1.length c1) false 0 b) 0 b) (by simp) hl0 hl1 (hT.below hba)
  rw [he] at hkn
  have H0 := Aside0.mk h0
  have H1 := Aside0.mk h1
  obtain ⟨W3, hW3⟩ : ∃ W3, (w3of w t (.slice A0 l0.length c0) (.slice A1 l1.length c1) false 0 b) = W3 := ⟨_, rfl⟩
  rw [hW3] at hl3 hba hkn
  unfold w3of at hW3
  have HW3 := Aside0.mk hW3
  have HL := Aside0.mk hl3
  have HKN := Aside0.mk hkn
  have ha := below_alloc (Below.refl W3.heap.size W3) (.cells #[.int .i64 0, .int .i64 b] 29)
  have HBA := Aside0.mk ha
  clear hba hkn h0 h1 he hl3 hT hl0 hl1 ha hW3
  have hu22 := Tryd.underlying22
  have hu29 := Tryd.underlying29
  have hu24 := Tryd.underlying24
  have hu38 := Tryd.underlying38
  have hu26 := Tryd.underlying26
  have hz0 := HL.out.q2.c0
  have hz1 := HL.out.q2.c1
  have hz2 := HL.out.q2.c2
  have hz3 := HL.out.q2.c3
  have hy0 : W3.cell? ⟨w.heap.size + 1, 0, none⟩ = some (.int .i64 0) := (blk_cell HL.out.q3 0).trans rfl
  have hy1 : W3.cell? ⟨w.heap.size + 1, 1, none⟩ = some (.int .i64 b) := (blk_cell HL.out.q3 1).trans rfl
  go_enter Tryd.func45, Tryd.ntmps45
  go_upto_region 1 with (fail)
  rw [HW3.out]
  clear HW3
  obtain ⟨ad, ea, hx0, _, _⟩ := at_T38 H0.out (b : Int) (by omega) (by omega)
  subst ea
  rw [Int.toNat_natCast] at hx0
  have HX0 := Aside0.mk hx0
  clear hx0
  generalize (rd_T38 l0 (b : Int)).f0 = st at hst HX0
  have hst1 : (st != 1) = true := bne_iff_ne.2 hst
  clear hst
  have HBI := Aside0.mk hb
  clear hb
  go_wp2_with (first | (go_at_call 54; go_must (refine HKN.out.mono ?_; rintro e_ W4 ⟨rfl, hB4⟩; have HF := Aside0.mk (HL.out.below (below_step HBA.out hB4)); clear hB4 HL HKN HBA hz0 hz1 hz2 hz3 hy0 hy1; have hx3 := HF.out.1.c3; have hv0 : W4.cell? ⟨w.heap.size + 1, 0, none⟩ = some (.int .i64 0) := (blk_cell HF.out.2.1 0).trans rfl; have hv1 : W4.cell? ⟨w.heap.size + 1, 1, none⟩ = some (.int .i64 b) := (blk_cell HF.out.2.1 1).trans rfl)) | (go_at_call 55; go_must (refine (state_map W4 w.heap.size t ad _ _ _ false b HF.out.1 (by omega) (by have := HBI.out; omega)).mono ?_; rintro e_ W5 ⟨rfl, hB5⟩; have HG := Aside0.mk (show bookAt W5 w.heap.size t _ _ false ∧ W5.heap[w.heap.size + 1]? = some (.cells #[.int .i64 0, .int .i64 b] 29 (0, 0)) ∧ W5.heap[w.heap.size + 1 + 1]? = some (.cells #[.int .i64 0, .slice none 0 0, .slice none 0 0, .bool false] 24 (0, 0)) ∧ Below w.heap.size w W5 ∧ w.heap.size + 3 ≤ W5.heap.size from ⟨HF.out.1.below hB5 HF.out.1.lt, (hB5.block _ (by have := HF.out.2.2.2.2; omega)).trans HF.out.2.1, (hB5.block _ (by have := HF.out.2.2.2.2; omega)).trans HF.out.2.2.1, below_step HF.out.2.2.2.1 hB5, by have := hB5.size; have := HF.out.2.2.2.2; omega⟩); clear hB5 HF hx3 hv0 hv1; have hx0 := (HG.out.2.2.2.1.cell (World.block_lt_of_cell? w _ HX0.out)).trans HX0.out; have hc0 : W5.cell? ⟨w.heap.size + 1 + 1, 0, none⟩ = some (.int .i64 0) := (blk_cell HG.out.2.2.1 0).trans rfl; have hc1 : W5.cell? ⟨w.heap.size + 1 + 1, 1, none⟩ = some (.slice none 0 0) := (blk_cell HG.out.2.2.1 1).trans rfl; have hc2 : W5.cell? ⟨w.heap.size + 1 + 1, 2, none⟩ = some (.slice none 0 0) := (blk_cell HG.out.2.2.1 2).trans rfl; have hc3 : W5.cell? ⟨w.heap.size + 1 + 1, 3, none⟩ = some (.bool false) := (blk_cell HG.out.2.2.1 3).trans rfl; have hf0 : W5.frozen? ⟨w.heap.size + 1 + 1, 0, none⟩ = false := frozen_of_row _ _ _ _ _ HG.out.2.2.1; have hf1 : W5.frozen? ⟨w.heap.size + 1 + 1, 1, none⟩ = false := frozen_of_row _ _ _ _ _ HG.out.2.2.1; have hf2 : W5.frozen? ⟨w.heap.size + 1 + 1, 2, none⟩ = false := frozen_of_row _ _ _ _ _ HG.out.2.2.1; have hf3 : W5.frozen? ⟨w.heap.size + 1 + 1, 3, none⟩ = false := frozen_of_row _ _ _ _ _ HG.out.2.2.1)))
  refine bodyPost_ret (results_ct rfl _ _ (w.heap.size + 1 + 1) 24 #[.int .i64 0, .slice none 0 0, .slice none 0 0, .bool false] (0, 0) _ rfl (by refine blk_put (cs := #[.int .i64 0, .slice none 0 0, .slice none 0 0, .bool false]) ?_ 3 _ rfl; refine blk_put (cs := #[.int .i64 0, .slice none 0 0, .slice none 0 0, .bool false]) ?_ 2 _ rfl; refine blk_put (cs := #[.int .i64 0, .slice none 0 0, .slice none 0 0, .bool false]) ?_ 1 _ rfl; refine blk_put (cs := #[.int .i64 0, .slice none 0 0, .slice none 0 0, .bool false]) ?_ 0 _ rfl; exact HG.out.2.2.1) Tryd.underlying24 rfl (by kernel_rfl)) rfl ?_
  exact ⟨rfl, (((HG.out.2.2.2.1.setCell (by simp; omega) _).setCell (by simp; omega) _).setCell (by simp; omega) _).setCell (by simp; omega) _⟩

set_option maxHeartbeats 4000000 in
set_option maxRecDepth 100000 in
theorem ended_wait_red (fid : Nat) (cap : Array Value) (hE : Enters Tryd.prog fid) (t : Int) (fl : Bool) (A0 : Option Addr) (c0 : Nat) (l0 : List S38) (A1 : Option Addr) (c1 : Nat) (l1 : List S38) (b : Nat) (w : World)
    (h0 : Kd.C k38 w A0 l0.length l0) (h1 : Kd.C k38 w A1 l1.length l1) (hl0 : l0.length ≤ 6000000000000) (hl1 : l1.length ≤ 6000000000000) (hT : Tab w) (he : knownP t l0 l1 fl [⟨1, b⟩] = 0) (hfl : fl = false) (hb : b < l1.length) (hst : (rd_T38 l1 (b : Int)).f0 ≠ 1) :
    Calls Tryd.prog 45 #[.agg #[.int .i64 t, .slice A0 l0.length c0, .slice A1 l1.length c1, .bool fl], .agg #[.int .i64 1, .int .i64 b], .func (.func fid) #[] cap] w fun e_ w' => e_ = .returned (.tuple #[.agg #[.int .i64 0, .slice none 0 0, .slice none 0 0, .bool false], .int .i64 192]) ∧ Below w.heap.size w w' := by
  subst hfl
  have hl3 := lays3_of w t (.slice A0 l0.length c0) (.slice A1 l1.length c1) false 1 b
  have hba : Below w.heap.size w ((w3of w t (.slice A0 l0.length c0) (.slice A1 l1.length c1) false 1 b).alloc (.cells #[.int .i64 1, .int .i64 b] 29)) := below_alloc hl3.q0 _
  have hkn := known_any t false A0 c0 l0 A1 c1 l1 (some ⟨(w3of w t (.slice A0 l0.length c0) (.slice A1 l1.length c1) false 1 b).heap.size, 0, none⟩) 1 [⟨1, b⟩] ((w3of w t (.slice A0 l0.length c0) (.slice A1 l1.length c1) false 1 b).alloc (.cells #[.int .i64 1, .int .i64 b] 29)) (Kd.C_below h0 hba) (Kd.C_below h1 hba) (C_one (w3of w t (.slice A0 l0.length c0) (.slice A1 l1.length c1) false 1 b) 1 b) (by simp) hl0 hl1 (hT.below hba)
  rw [he] at hkn
  have H0 := Aside0.mk h0
  have H1 := Aside0.mk h1
  obtain ⟨W3, hW3⟩ : ∃ W3, (w3of w t (.slice A0 l0.length c0) (.slice A1 l1.length c1) false 1 b) = W3 := ⟨_, rfl⟩
  rw [hW3] at hl3 hba hkn
  unfold w3of at hW3
  have HW3 := Aside0.mk hW3
  have HL := Aside0.mk hl3
  have HKN := Aside0.mk hkn
  have ha := below_alloc (Below.refl W3.heap.size W3) (.cells #[.int .i64 1, .int .i64 b] 29)
  have HBA := Aside0.mk ha
  clear hba hkn h0 h1 he hl3 hT hl0 hl1 ha hW3
  have hu22 := Tryd.underlying22
  have hu29 := Tryd.underlying29
  have hu24 := Tryd.underlying24
  have hu38 := Tryd.underlying38
  have hu26 := Tryd.underlying26
  have hz0 := HL.out.q2.c0
  have hz1 := HL.out.q2.c1
  have hz2 := HL.out.q2.c2
  have hz3 := HL.out.q2.c3
  have hy0 : W3.cell? ⟨w.heap.size + 1, 0, none⟩ = some (.int .i64 1) := (blk_cell HL.out.q3 0).trans rfl
  have hy1 : W3.cell? ⟨w.heap.size + 1, 1, none⟩ = some (.int .i64 b) := (blk_cell HL.out.q3 1).trans rfl
  go_enter Tryd.func45, Tryd.ntmps45
  go_upto_region 1 with (fail)
  rw [HW3.out]
  clear HW3
  obtain ⟨ad, ea, hx0, _, _⟩ := at_T38 H1.out (b : Int) (by omega) (by omega)
  subst ea
  rw [Int.toNat_natCast] at hx0
  have HX0 := Aside0.mk hx0
  clear hx0
  generalize (rd_T38 l1 (b : Int)).f0 = st at hst HX0
  have hst1 : (st != 1) = true := bne_iff_ne.2 hst
  clear hst
  have HBI := Aside0.mk hb
  clear hb
  go_wp2_with (first | (go_at_call 54; go_must (refine HKN.out.mono ?_; rintro e_ W4 ⟨rfl, hB4⟩; have HF := Aside0.mk (HL.out.below (below_step HBA.out hB4)); clear hB4 HL HKN HBA hz0 hz1 hz2 hz3 hy0 hy1; have hx3 := HF.out.1.c3; have hv0 : W4.cell? ⟨w.heap.size + 1, 0, none⟩ = some (.int .i64 1) := (blk_cell HF.out.2.1 0).trans rfl; have hv1 : W4.cell? ⟨w.heap.size + 1, 1, none⟩ = some (.int .i64 b) := (blk_cell HF.out.2.1 1).trans rfl)) | (go_at_call 55; go_must (refine (state_red W4 w.heap.size t ad _ _ _ false b HF.out.1 (by omega) (by have := HBI.out; omega)).mono ?_; rintro e_ W5 ⟨rfl, hB5⟩; have HG := Aside0.mk (show bookAt W5 w.heap.size t _ _ false ∧ W5.heap[w.heap.size + 1]? = some (.cells #[.int .i64 1, .int .i64 b] 29 (0, 0)) ∧ W5.heap[w.heap.size + 1 + 1]? = some (.cells #[.int .i64 0, .slice none 0 0, .slice none 0 0, .bool false] 24 (0, 0)) ∧ Below w.heap.size w W5 ∧ w.heap.size + 3 ≤ W5.heap.size from ⟨HF.out.1.below hB5 HF.out.1.lt, (hB5.block _ (by have := HF.out.2.2.2.2; omega)).trans HF.out.2.1, (hB5.block _ (by have := HF.out.2.2.2.2; omega)).trans HF.out.2.2.1, below_step HF.out.2.2.2.1 hB5, by have := hB5.size; have := HF.out.2.2.2.2; omega⟩); clear hB5 HF hx3 hv0 hv1; have hx0 := (HG.out.2.2.2.1.cell (World.block_lt_of_cell? w _ HX0.out)).trans HX0.out; have hc0 : W5.cell? ⟨w.heap.size + 1 + 1, 0, none⟩ = some (.int .i64 0) := (blk_cell HG.out.2.2.1 0).trans rfl; have hc1 : W5.cell? ⟨w.heap.size + 1 + 1, 1, none⟩ = some (.slice none 0 0) := (blk_cell HG.out.2.2.1 1).trans rfl; have hc2 : W5.cell? ⟨w.heap.size + 1 + 1, 2, none⟩ = some (.slice none 0 0) := (blk_cell HG.out.2.2.1 2).trans rfl; have hc3 : W5.cell? ⟨w.heap.size + 1 + 1, 3, none⟩ = some (.bool false) := (blk_cell HG.out.2.2.1 3).trans rfl; have hf0 : W5.frozen? ⟨w.heap.size + 1 + 1, 0, none⟩ = false := frozen_of_row _ _ _ _ _ HG.out.2.2.1; have hf1 : W5.frozen? ⟨w.heap.size + 1 + 1, 1, none⟩ = false := frozen_of_row _ _ _ _ _ HG.out.2.2.1; have hf2 : W5.frozen? ⟨w.heap.size + 1 + 1, 2, none⟩ = false := frozen_of_row _ _ _ _ _ HG.out.2.2.1; have hf3 : W5.frozen? ⟨w.heap.size + 1 + 1, 3, none⟩ = false := frozen_of_row _ _ _ _ _ HG.out.2.2.1)))
  refine bodyPost_ret (results_ct rfl _ _ (w.heap.size + 1 + 1) 24 #[.int .i64 0, .slice none 0 0, .slice none 0 0, .bool false] (0, 0) _ rfl (by refine blk_put (cs := #[.int .i64 0, .slice none 0 0, .slice none 0 0, .bool false]) ?_ 3 _ rfl; refine blk_put (cs := #[.int .i64 0, .slice none 0 0, .slice none 0 0, .bool false]) ?_ 2 _ rfl; refine blk_put (cs := #[.int .i64 0, .slice none 0 0, .slice none 0 0, .bool false]) ?_ 1 _ rfl; refine blk_put (cs := #[.int .i64 0, .slice none 0 0, .slice none 0 0, .bool false]) ?_ 0 _ rfl; exact HG.out.2.2.1) Tryd.underlying24 rfl (by kernel_rfl)) rfl ?_
  exact ⟨rfl, (((HG.out.2.2.2.1.setCell (by simp; omega) _).setCell (by simp; omega) _).setCell (by simp; omega) _).setCell (by simp; omega) _⟩

set_option maxHeartbeats 4000000 in
set_option maxRecDepth 100000 in
theorem ended_go_map (fid : Nat) (cap : Array Value) (hE : Enters Tryd.prog fid) (t : Int) (fl : Bool) (A0 : Option Addr) (c0 : Nat) (l0 : List S38) (A1 : Option Addr) (c1 : Nat) (l1 : List S38) (b : Nat) (w : World)
    (h0 : Kd.C k38 w A0 l0.length l0) (h1 : Kd.C k38 w A1 l1.length l1) (hl0 : l0.length ≤ 6000000000000) (hl1 : l1.length ≤ 6000000000000) (hT : Tab w) (he : knownP t l0 l1 fl [⟨0, b⟩] = 0) (hfl : fl = false) (hb : b < l0.length) (hst : (rd_T38 l0 (b : Int)).f0 = 1) (hl0' : l0.length ≤ 100000) (hl1' : l1.length ≤ 100000) (s' : S38) (fl' : Bool)
    (hdo : ∀ (W : World) (gb gs off : Nat) (u0 u1 : Value), bookAt W gb t u0 u1 fl → taskAt W gs off (rd_T38 l0 (b : Int)) → gs ≠ gb → w.heap.size ≤ gs → Below w.heap.size w W →
      Calls Tryd.prog fid (#[.pointer (some ⟨gb, 0, none⟩), .pointer (some ⟨gs, off, none⟩)] ++ cap) W fun e w' => e = .returned (.tuple #[]) ∧ ∃ q, w' = (put4 W gs off s' gb fl').drewN q) :
    Calls Tryd.prog 45 #[.agg #[.int .i64 t, .slice A0 l0.length c0, .slice A1 l1.length c1, .bool fl], .agg #[.int .i64 0, .int .i64 b], .func (.func fid) #[] cap] w fun e_ w' => ∃ v1 v2 : Value, e_ = .returned (.tuple #[.agg #[.int .i64 t, v1, v2, .bool fl'], .int .i64 0]) ∧ Kd.R k38 38 w' w.heap.size (fun k => some k ≠ v2.ownBlock) v1 (l0.set b s') ∧ Kd.R k38 38 w' w.heap.size (fun k => some k ≠ v1.ownBlock) v2 l1 ∧ Below w.heap.size w w' := by
  subst hfl
  have hl3 := lays3_of w t (.slice A0 l0.length c0) (.slice A1 l1.length c1) false 0 b
  have hba : Below w.heap.size w ((w3of w t (.slice A0 l0.length c0) (.slice A1 l1.length c1) false 0 b).alloc (.cells #[.int .i64 0, .int .i64 b] 29)) := below_alloc hl3.q0 _
  have hkn := known_any t false A0 c0 l0 A1 c1 l1 (some ⟨(w3of w t (.slice A0 l0.length c0) (.slice A1 l1.length c1) false 0 b).heap.size, 0, none⟩) 1 [⟨0, b⟩] ((w3of w t (.slice A0 l0.length c0) (.slice A1 l1.length c1) false 0 b).alloc (.cells #[.int .i64 0, .int .i64 b] 29)) (Kd.C_below h0 hba) (Kd.C_below h1 hba) (C_one (w3of w t (.slice A0 l0.length c0) (.slice A1 l1.length c1) false 0 b) 0 b) (by simp) hl0 hl1 (hT.below hba)
  rw [he] at hkn
  have H0 := Aside0.mk h0
  have H1 := Aside0.mk h1
  obtain ⟨W3, hW3⟩ : ∃ W3, (w3of w t (.slice A0 l0.length c0) (.slice A1 l1.length c1) false 0 b) = W3 := ⟨_, rfl⟩
  rw [hW3] at hl3 hba hkn
  unfold w3of at hW3
  have HW3 := Aside0.mk hW3
  have HL := Aside0.mk hl3
  have HKN := Aside0.mk hkn
  have ha := below_alloc (Below.refl W3.heap.size W3) (.cells #[.int .i64 0, .int .i64 b] 29)
  have HBA := Aside0.mk ha
  clear hba hkn h0 h1 he hl3 hT hl0 hl1 ha hW3
  have hu22 := Tryd.underlying22
  have hu29 := Tryd.underlying29
  have hu24 := Tryd.underlying24
  have hu38 := Tryd.underlying38
  have hu26 := Tryd.underlying26
  have hz0 := HL.out.q2.c0
  have hz1 := HL.out.q2.c1
  have hz2 := HL.out.q2.c2
  have hz3 := HL.out.q2.c3
  have hy0 : W3.cell? ⟨w.heap.size + 1, 0, none⟩ = some (.int .i64 0) := (blk_cell HL.out.q3 0).trans rfl
  have hy1 : W3.cell? ⟨w.heap.size + 1, 1, none⟩ = some (.int .i64 b) := (blk_cell HL.out.q3 1).trans rfl
  go_enter Tryd.func45, Tryd.ntmps45
  go_upto_region 1 with (fail)
  rw [HW3.out]
  clear HW3
  obtain ⟨ad, ea, hx0, _, _⟩ := at_T38 H0.out (b : Int) (by omega) (by omega)
  subst ea
  rw [Int.toNat_natCast] at hx0
  rw [hst] at hx0
  have HX0 := Aside0.mk hx0
  clear hx0 hst
  have HBI := Aside0.mk hb
  clear hb
  go_upto_region 6 with (first | (go_at_call 54; go_must (refine HKN.out.mono ?_; rintro e_ W4 ⟨rfl, hB4⟩; have HF := Aside0.mk (HL.out.below (below_step HBA.out hB4)); clear hB4 HL HKN HBA hz0 hz1 hz2 hz3 hy0 hy1; have hx3 := HF.out.1.c3; have hv0 : W4.cell? ⟨w.heap.size + 1, 0, none⟩ = some (.int .i64 0) := (blk_cell HF.out.2.1 0).trans rfl; have hv1 : W4.cell? ⟨w.heap.size + 1, 1, none⟩ = some (.int .i64 b) := (blk_cell HF.out.2.1 1).trans rfl)) | (go_at_call 55; go_must (refine (state_map W4 w.heap.size t ad _ _ _ false b HF.out.1 (by omega) (by have := HBI.out; omega)).mono ?_; rintro e_ W5 ⟨rfl, hB5⟩; have HG := Aside0.mk (show bookAt W5 w.heap.size t _ _ false ∧ W5.heap[w.heap.size + 1]? = some (.cells #[.int .i64 0, .int .i64 b] 29 (0, 0)) ∧ W5.heap[w.heap.size + 1 + 1]? = some (.cells #[.int .i64 0, .slice none 0 0, .slice none 0 0, .bool false] 24 (0, 0)) ∧ Below w.heap.size w W5 ∧ w.heap.size + 3 ≤ W5.heap.size from ⟨HF.out.1.below hB5 HF.out.1.lt, (hB5.block _ (by have := HF.out.2.2.2.2; omega)).trans HF.out.2.1, (hB5.block _ (by have := HF.out.2.2.2.2; omega)).trans HF.out.2.2.1, below_step HF.out.2.2.2.1 hB5, by have := hB5.size; have := HF.out.2.2.2.2; omega⟩); clear hB5 HF hx3 hv0 hv1; have hx0 := (HG.out.2.2.2.1.cell (World.block_lt_of_cell? w _ HX0.out)).trans HX0.out)))
  clear hx0
  have hz0 := HG.out.1.c0
  have hz1 := HG.out.1.c1
  have hz2 := HG.out.1.c2
  have hz3 := HG.out.1.c3
  have hy0 : W5.cell? ⟨w.heap.size + 1, 0, none⟩ = some (.int .i64 0) := (blk_cell HG.out.2.1 0).trans rfl
  have hy1 : W5.cell? ⟨w.heap.size + 1, 1, none⟩ = some (.int .i64 b) := (blk_cell HG.out.2.1 1).trans rfl
  have hch := changed_map fid cap hE t false (some ad) c0 l0 A1 c1 l1 b s' fl' W5 (Kd.C_below H0.out HG.out.2.2.2.1) (Kd.C_below H1.out HG.out.2.2.2.1) hl0' hl1' HBI.out
    (fun W gb gs off u0 u1 g1 g2 g3 g4 g5 => hdo W gb gs off u0 u1 g1 g2 g3 (Nat.le_trans (by have := HG.out.2.2.2.2; omega) g4) (below_step HG.out.2.2.2.1 g5))
  have HCH := Aside0.mk hch
  clear hch hdo
  go_wp2_with (go_at_call 56; go_must (refine HCH.out.mono ?_; rintro e_ W4 ⟨v1, v2, rfl, hr1, hr2, hB6⟩; have HR1 := Aside0.mk (Kd.R_mono (Kd.R_bound hr1) (fun k hk => (⟨hk.1, hk.2.1⟩ : _ ∧ W5.heap.size ≤ k))); have HR2 := Aside0.mk (Kd.R_mono (Kd.R_bound hr2) (fun k hk => (⟨hk.1, hk.2.1⟩ : _ ∧ W5.heap.size ≤ k))); have HB6 := Aside0.mk (below_step HG.out.2.2.2.1 hB6); have HZ := Aside0.mk (show W4.heap[w.heap.size + 1 + 1]? = some (.cells #[.int .i64 0, .slice none 0 0, .slice none 0 0, .bool false] 24 (0, 0)) from (hB6.block _ (by have := HG.out.2.2.2.2; omega)).trans HG.out.2.2.1); have HS := Aside0.mk HG.out.2.2.2.2; have HB5 := Aside0.mk (below_size HG.out.2.2.2.1); clear hr1 hr2 hB6 HCH HG hz0 hz1 hz2 hz3 hy0 hy1; obtain ⟨B1, d1, e1⟩ := Kd.R_slice HR1.out; subst e1; obtain ⟨B2, d2, e2⟩ := Kd.R_slice HR2.out; subst e2; (try simp only [List.length_set] at HR1 HR2); have hc0 : W4.cell? ⟨w.heap.size + 1 + 1, 0, none⟩ = some (.int .i64 0) := (blk_cell HZ.out 0).trans rfl; have hc1 : W4.cell? ⟨w.heap.size + 1 + 1, 1, none⟩ = some (.slice none 0 0) := (blk_cell HZ.out 1).trans rfl; have hc2 : W4.cell? ⟨w.heap.size + 1 + 1, 2, none⟩ = some (.slice none 0 0) := (blk_cell HZ.out 2).trans rfl; have hc3 : W4.cell? ⟨w.heap.size + 1 + 1, 3, none⟩ = some (.bool false) := (blk_cell HZ.out 3).trans rfl; have hf0 : W4.frozen? ⟨w.heap.size + 1 + 1, 0, none⟩ = false := frozen_of_row _ _ _ _ _ HZ.out; have hf1 : W4.frozen? ⟨w.heap.size + 1 + 1, 1, none⟩ = false := frozen_of_row _ _ _ _ _ HZ.out; have hf2 : W4.frozen? ⟨w.heap.size + 1 + 1, 2, none⟩ = false := frozen_of_row _ _ _ _ _ HZ.out; have hf3 : W4.frozen? ⟨w.heap.size + 1 + 1, 3, none⟩ = false := frozen_of_row _ _ _ _ _ HZ.out))
  refine bodyPost_ret (results_ct rfl _ _ (w.heap.size + 1 + 1) 24 #[.int .i64 t, .slice B1 l0.length d1, .slice B2 l1.length d2, .bool fl'] (0, 0) _ rfl (by refine blk_put (cs := #[.int .i64 t, .slice B1 l0.length d1, .slice B2 l1.length d2, .bool false]) ?_ 3 _ rfl; refine blk_put (cs := #[.int .i64 t, .slice B1 l0.length d1, .slice none 0 0, .bool false]) ?_ 2 _ rfl; refine blk_put (cs := #[.int .i64 t, .slice none 0 0, .slice none 0 0, .bool false]) ?_ 1 _ rfl; refine blk_put (cs := #[.int .i64 0, .slice none 0 0, .slice none 0 0, .bool false]) ?_ 0 _ rfl; exact HZ.out) Tryd.underlying24 rfl (by kernel_rfl)) rfl ?_
  have hs := HS.out
  refine ⟨_, _, rfl, ?_, ?_, (((HB6.out.setCell (by simp; omega) _).setCell (by simp; omega) _).setCell (by simp; omega) _).setCell (by simp; omega) _⟩
  · exact Kd.R_lower (Kd.R_mono (Kd.R_far (p := ⟨w.heap.size + 1 + 1, 3, none⟩) (Kd.R_far (p := ⟨w.heap.size + 1 + 1, 2, none⟩) (Kd.R_far (p := ⟨w.heap.size + 1 + 1, 1, none⟩) (Kd.R_far (p := ⟨w.heap.size + 1 + 1, 0, none⟩) HR1.out (fun k hk => by have := hk.2; simp; omega) _) (fun k hk => by have := hk.2; simp; omega) _) (fun k hk => by have := hk.2; simp; omega) _) (fun k hk => by have := hk.2; simp; omega) _) (fun k hk => hk.1)) HB5.out
  · exact Kd.R_lower (Kd.R_mono (Kd.R_far (p := ⟨w.heap.size + 1 + 1, 3, none⟩) (Kd.R_far (p := ⟨w.heap.size + 1 + 1, 2, none⟩) (Kd.R_far (p := ⟨w.heap.size + 1 + 1, 1, none⟩) (Kd.R_far (p := ⟨w.heap.size + 1 + 1, 0, none⟩) HR2.out (fun k hk => by have := hk.2; simp; omega) _) (fun k hk => by have := hk.2; simp; omega) _) (fun k hk => by have := hk.2; simp; omega) _) (fun k hk => by have := hk.2; simp; omega) _) (fun k hk => hk.1)) HB5.out

set_option maxHeartbeats 4000000 in
set_option maxRecDepth 100000 in
theorem ended_go_red (fid : Nat) (cap : Array Value) (hE : Enters Tryd.prog fid) (t : Int) (fl : Bool) (A0 : Option Addr) (c0 : Nat) (l0 : List S38) (A1 : Option Addr) (c1 : Nat) (l1 : List S38) (b : Nat) (w : World)
    (h0 : Kd.C k38 w A0 l0.length l0) (h1 : Kd.C k38 w A1 l1.length l1) (hl0 : l0.length ≤ 6000000000000) (hl1 : l1.length ≤ 6000000000000) (hT : Tab w) (he : knownP t l0 l1 fl [⟨1, b⟩] = 0) (hfl : fl = false) (hb : b < l1.length) (hst : (rd_T38 l1 (b : Int)).f0 = 1) (hl0' : l0.length ≤ 100000) (hl1' : l1.length ≤ 100000) (s' : S38) (fl' : Bool)
    (hdo : ∀ (W : World) (gb gs off : Nat) (u0 u1 : Value), bookAt W gb t u0 u1 fl → taskAt W gs off (rd_T38 l1 (b : Int)) → gs ≠ gb → w.heap.size ≤ gs → Below w.heap.size w W →
      Calls Tryd.prog fid (#[.pointer (some ⟨gb, 0, none⟩), .pointer (some ⟨gs, off, none⟩)] ++ cap) W fun e w' => e = .returned (.tuple #[]) ∧ ∃ q, w' = (put4 W gs off s' gb fl').drewN q) :
    Calls Tryd.prog 45 #[.agg #[.int .i64 t, .slice A0 l0.length c0, .slice A1 l1.length c1, .bool fl], .agg #[.int .i64 1, .int .i64 b], .func (.func fid) #[] cap] w fun e_ w' => ∃ v1 v2 : Value, e_ = .returned (.tuple #[.agg #[.int .i64 t, v1, v2, .bool fl'], .int .i64 0]) ∧ Kd.R k38 38 w' w.heap.size (fun k => some k ≠ v2.ownBlock) v1 l0 ∧ Kd.R k38 38 w' w.heap.size (fun k => some k ≠ v1.ownBlock) v2 (l1.set b s') ∧ Below w.heap.size w w' := by
  subst hfl
  have hl3 := lays3_of w t (.slice A0 l0.length c0) (.slice A1 l1.length c1) false 1 b
  have hba : Below w.heap.size w ((w3of w t (.slice A0 l0.length c0) (.slice A1 l1.length c1) false 1 b).alloc (.cells #[.int .i64 1, .int .i64 b] 29)) := below_alloc hl3.q0 _
  have hkn := known_any t false A0 c0 l0 A1 c1 l1 (some ⟨(w3of w t (.slice A0 l0.length c0) (.slice A1 l1.length c1) false 1 b).heap.size, 0, none⟩) 1 [⟨1, b⟩] ((w3of w t (.slice A0 l0.length c0) (.slice A1 l1.length c1) false 1 b).alloc (.cells #[.int .i64 1, .int .i64 b] 29)) (Kd.C_below h0 hba) (Kd.C_below h1 hba) (C_one (w3of w t (.slice A0 l0.length c0) (.slice A1 l1.length c1) false 1 b) 1 b) (by simp) hl0 hl1 (hT.below hba)
  rw [he] at hkn
  have H0 := Aside0.mk h0
  have H1 := Aside0.mk h1
  obtain ⟨W3, hW3⟩ : ∃ W3, (w3of w t (.slice A0 l0.length c0) (.slice A1 l1.length c1) false 1 b) = W3 := ⟨_, rfl⟩
  rw [hW3] at hl3 hba hkn
  unfold w3of at hW3
  have HW3 := Aside0.mk hW3
  have HL := Aside0.mk hl3
  have HKN := Aside0.mk hkn
  have ha := below_alloc (Below.refl W3.heap.size W3) (.cells #[.int .i64 1, .int .i64 b] 29)
  have HBA := Aside0.mk ha
  clear hba hkn h0 h1 he hl3 hT hl0 hl1 ha hW3
  have hu22 := Tryd.underlying22
  have hu29 := Tryd.underlying29
  have hu24 := Tryd.underlying24
  have hu38 := Tryd.underlying38
  have hu26 := Tryd.underlying26
  have hz0 := HL.out.q2.c0
  have hz1 := HL.out.q2.c1
  have hz2 := HL.out.q2.c2
  have hz3 := HL.out.q2.c3
  have hy0 : W3.cell? ⟨w.heap.size + 1, 0, none⟩ = some (.int .i64 1) := (blk_cell HL.out.q3 0).trans rfl
  have hy1 : W3.cell? ⟨w.heap.size + 1, 1, none⟩ = some (.int .i64 b) := (blk_cell HL.out.q3 1).trans rfl
  go_enter Tryd.func45, Tryd.ntmps45
  go_upto_region 1 with (fail)
  rw [HW3.out]
  clear HW3
  obtain ⟨ad, ea, hx0, _, _⟩ := at_T38 H1.out (b : Int) (by omega) (by omega)
  subst ea
  rw [Int.toNat_natCast] at hx0
  rw [hst] at hx0
  have HX0 := Aside0.mk hx0
  clear hx0 hst
  have HBI := Aside0.mk hb
  clear hb
  go_upto_region 6 with (first | (go_at_call 54; go_must (refine HKN.out.mono ?_; rintro e_ W4 ⟨rfl, hB4⟩; have HF := Aside0.mk (HL.out.below (below_step HBA.out hB4)); clear hB4 HL HKN HBA hz0 hz1 hz2 hz3 hy0 hy1; have hx3 := HF.out.1.c3; have hv0 : W4.cell? ⟨w.heap.size + 1, 0, none⟩ = some (.int .i64 1) := (blk_cell HF.out.2.1 0).trans rfl; have hv1 : W4.cell? ⟨w.heap.size + 1, 1, none⟩ = some (.int .i64 b) := (blk_cell HF.out.2.1 1).trans rfl)) | (go_at_call 55; go_must (refine (state_red W4 w.heap.size t ad _ _ _ false b HF.out.1 (by omega) (by have := HBI.out; omega)).mono ?_; rintro e_ W5 ⟨rfl, hB5⟩; have HG := Aside0.mk (show bookAt W5 w.heap.size t _ _ false ∧ W5.heap[w.heap.size + 1]? = some (.cells #[.int .i64 1, .int .i64 b] 29 (0, 0)) ∧ W5.heap[w.heap.size + 1 + 1]? = some (.cells #[.int .i64 0, .slice none 0 0, .slice none 0 0, .bool false] 24 (0, 0)) ∧ Below w.heap.size w W5 ∧ w.heap.size + 3 ≤ W5.heap.size from ⟨HF.out.1.below hB5 HF.out.1.lt, (hB5.block _ (by have := HF.out.2.2.2.2; omega)).trans HF.out.2.1, (hB5.block _ (by have := HF.out.2.2.2.2; omega)).trans HF.out.2.2.1, below_step HF.out.2.2.2.1 hB5, by have := hB5.size; have := HF.out.2.2.2.2; omega⟩); clear hB5 HF hx3 hv0 hv1; have hx0 := (HG.out.2.2.2.1.cell (World.block_lt_of_cell? w _ HX0.out)).trans HX0.out)))
  clear hx0
  have hz0 := HG.out.1.c0
  have hz1 := HG.out.1.c1
  have hz2 := HG.out.1.c2
  have hz3 := HG.out.1.c3
  have hy0 : W5.cell? ⟨w.heap.size + 1, 0, none⟩ = some (.int .i64 1) := (blk_cell HG.out.2.1 0).trans rfl
  have hy1 : W5.cell? ⟨w.heap.size + 1, 1, none⟩ = some (.int .i64 b) := (blk_cell HG.out.2.1 1).trans rfl
  have hch := changed_red fid cap hE t false A0 c0 l0 (some ad) c1 l1 b s' fl' W5 (Kd.C_below H0.out HG.out.2.2.2.1) (Kd.C_below H1.out HG.out.2.2.2.1) hl0' hl1' HBI.out
    (fun W gb gs off u0 u1 g1 g2 g3 g4 g5 => hdo W gb gs off u0 u1 g1 g2 g3 (Nat.le_trans (by have := HG.out.2.2.2.2; omega) g4) (below_step HG.out.2.2.2.1 g5))
  have HCH := Aside0.mk hch
  clear hch hdo
  go_wp2_with (go_at_call 56; go_must (refine HCH.out.mono ?_; rintro e_ W4 ⟨v1, v2, rfl, hr1, hr2, hB6⟩; have HR1 := Aside0.mk (Kd.R_mono (Kd.R_bound hr1) (fun k hk => (⟨hk.1, hk.2.1⟩ : _ ∧ W5.heap.size ≤ k))); have HR2 := Aside0.mk (Kd.R_mono (Kd.R_bound hr2) (fun k hk => (⟨hk.1, hk.2.1⟩ : _ ∧ W5.heap.size ≤ k))); have HB6 := Aside0.mk (below_step HG.out.2.2.2.1 hB6); have HZ := Aside0.mk (show W4.heap[w.heap.size + 1 + 1]? = some (.cells #[.int .i64 0, .slice none 0 0, .slice none 0 0, .bool false] 24 (0, 0)) from (hB6.block _ (by have := HG.out.2.2.2.2; omega)).trans HG.out.2.2.1); have HS := Aside0.mk HG.out.2.2.2.2; have HB5 := Aside0.mk (below_size HG.out.2.2.2.1); clear hr1 hr2 hB6 HCH HG hz0 hz1 hz2 hz3 hy0 hy1; obtain ⟨B1, d1, e1⟩ := Kd.R_slice HR1.out; subst e1; obtain ⟨B2, d2, e2⟩ := Kd.R_slice HR2.out; subst e2; (try simp only [List.length_set] at HR1 HR2); have hc0 : W4.cell? ⟨w.heap.size + 1 + 1, 0, none⟩ = some (.int .i64 0) := (blk_cell HZ.out 0).trans rfl; have hc1 : W4.cell? ⟨w.heap.size + 1 + 1, 1, none⟩ = some (.slice none 0 0) := (blk_cell HZ.out 1).trans rfl; have hc2 : W4.cell? ⟨w.heap.size + 1 + 1, 2, none⟩ = some (.slice none 0 0) := (blk_cell HZ.out 2).trans rfl; have hc3 : W4.cell? ⟨w.heap.size + 1 + 1, 3, none⟩ = some (.bool false) := (blk_cell HZ.out 3).trans rfl; have hf0 : W4.frozen? ⟨w.heap.size + 1 + 1, 0, none⟩ = false := frozen_of_row _ _ _ _ _ HZ.out; have hf1 : W4.frozen? ⟨w.heap.size + 1 + 1, 1, none⟩ = false := frozen_of_row _ _ _ _ _ HZ.out; have hf2 : W4.frozen? ⟨w.heap.size + 1 + 1, 2, none⟩ = false := frozen_of_row _ _ _ _ _ HZ.out; have hf3 : W4.frozen? ⟨w.heap.size + 1 + 1, 3, none⟩ = false := frozen_of_row _ _ _ _ _ HZ.out))
  refine bodyPost_ret (results_ct rfl _ _ (w.heap.size + 1 + 1) 24 #[.int .i64 t, .slice B1 l0.length d1, .slice B2 l1.length d2, .bool fl'] (0, 0) _ rfl (by refine blk_put (cs := #[.int .i64 t, .slice B1 l0.length d1, .slice B2 l1.length d2, .bool false]) ?_ 3 _ rfl; refine blk_put (cs := #[.int .i64 t, .slice B1 l0.length d1, .slice none 0 0, .bool false]) ?_ 2 _ rfl; refine blk_put (cs := #[.int .i64 t, .slice none 0 0, .slice none 0 0, .bool false]) ?_ 1 _ rfl; refine blk_put (cs := #[.int .i64 0, .slice none 0 0, .slice none 0 0, .bool false]) ?_ 0 _ rfl; exact HZ.out) Tryd.underlying24 rfl (by kernel_rfl)) rfl ?_
  have hs := HS.out
  refine ⟨_, _, rfl, ?_, ?_, (((HB6.out.setCell (by simp; omega) _).setCell (by simp; omega) _).setCell (by simp; omega) _).setCell (by simp; omega) _⟩
  · exact Kd.R_lower (Kd.R_mono (Kd.R_far (p := ⟨w.heap.size + 1 + 1, 3, none⟩) (Kd.R_far (p := ⟨w.heap.size + 1 + 1, 2, none⟩) (Kd.R_far (p := ⟨w.heap.size + 1 + 1, 1, none⟩) (Kd.R_far (p := ⟨w.heap.size + 1 + 1, 0, none⟩) HR1.out (fun k hk => by have := hk.2; simp; omega) _) (fun k hk => by have := hk.2; simp; omega) _) (fun k hk => by have := hk.2; simp; omega) _) (fun k hk => by have := hk.2; simp; omega) _) (fun k hk => hk.1)) HB5.out
  · exact Kd.R_lower (Kd.R_mono (Kd.R_far (p := ⟨w.heap.size + 1 + 1, 3, none⟩) (Kd.R_far (p := ⟨w.heap.size + 1 + 1, 2, none⟩) (Kd.R_far (p := ⟨w.heap.size + 1 + 1, 1, none⟩) (Kd.R_far (p := ⟨w.heap.size + 1 + 1, 0, none⟩) HR2.out (fun k hk => by have := hk.2; simp; omega) _) (fun k hk => by have := hk.2; simp; omega) _) (fun k hk => by have := hk.2; simp; omega) _) (fun k hk => by have := hk.2; simp; omega) _) (fun k hk => hk.1)) HB5.out
end Go.Proofs.YtponmfnegdlppaaDoor.P

end
section
/- ledger.ended in the print's form; ledger.Done, ledger.Died (printed by HDone.gen.py). -/
namespace Go.Proofs.YtponmfnegdlppaaDoor.P
open Go.RowKit Go.Proofs.YtponmfnegdlppaaDoorW.PrintWords Go.Proofs.YtponmfnegdlppaaDoorW.PrintLast Go.Proofs.YtponmfnegdlppaaDoorW.PrintMore
set_option linter.unusedVariables false
set_option linter.unusedSimpArgs false

theorem scan_good (t : Int) (held : Bool) : ∀ (l : List S38) (f g : Int), scanP t held l f = some g → ∀ s ∈ l, goodP t held s = true
  | [], f, g, h, s, hs => by cases hs
  | x :: l, f, g, h, s, hs => by
    rw [scanP] at h
    by_cases hg : goodP t held x = true
    · rw [if_pos hg] at h
      rcases List.mem_cons.1 hs with rfl | hs
      · exact hg
      · exact scan_good t held l _ g h s hs
    · rw [if_neg hg] at h
      cases h
/-- what a right book is -/
theorem check_ok {t : Int} {l0 l1 : List S38} {fl : Bool} (h : checkP t l0 l1 fl = 0) : 1 ≤ t ∧ t ≤ 16 ∧ l0.length ≤ 256 ∧ 1 ≤ l1.length ∧ l1.length ≤ 65535 ∧
    (∀ s ∈ l0, goodP t false s = true) ∧ (∀ s ∈ l1, goodP t true s = true) ∧ ∃ f g, scanP t false l0 0 = some f ∧ scanP t true l1 f = some g ∧ ¬ 1 < g ∧ fl = decide (g = 1) := by
  unfold checkP at h
  by_cases k1 : t < 1
  · rw [if_pos k1] at h; cases h
  rw [if_neg k1] at h
  by_cases k2 : 16 < t
  · rw [if_pos k2] at h; cases h
  rw [if_neg k2] at h
  by_cases k3 : 256 < l0.length
  · rw [if_pos k3] at h; cases h
  rw [if_neg k3] at h
  by_cases k4 : l1.length < 1
  · rw [if_pos k4] at h; cases h
  rw [if_neg k4] at h
  by_cases k5 : 65535 < l1.length
  · rw [if_pos k5] at h; cases h
  rw [if_neg k5] at h
  unfold scan0 at h
  cases h0 : scanP t false l0 0 with
  | none => rw [h0] at h; cases h
  | some f =>
    rw [h0] at h
    simp only [scan1] at h
    cases h1 : scanP t true l1 f with
    | none => rw [h1] at h; cases h
    | some g =>
      rw [h1] at h
      simp only [finP] at h
      by_cases h2 : 1 < g ∨ fl ≠ decide (g = 1)
      · rw [if_pos h2] at h; cases h
      · refine ⟨by omega, by omega, by omega, by omega, by omega, scan_good t false l0 _ _ h0, scan_good t true l1 _ _ h1, f, g, rfl, h1, fun h => h2 (.inl h), ?_⟩
        by_cases h3 : fl = decide (g = 1)
        · exact h3
        · exact absurd (.inr h3) h2
theorem known_zero {t : Int} {l0 l1 : List S38} {fl : Bool} {ts : List S29} (h : knownP t l0 l1 fl ts = 0) : checkP t l0 l1 fl = 0 ∧ scanT l0.length l1.length ts = 0 := by
  unfold knownP at h
  by_cases hc : checkP t l0 l1 fl = 0
  · rw [if_pos hc] at h; exact ⟨hc, h⟩
  · rw [if_neg hc] at h; exact absurd h hc
theorem okT_form {n0 n1 : Nat} {k b : Int} (h : okT n0 n1 ⟨k, b⟩ = true) : (k = 0 ∧ ∃ n : Nat, b = n ∧ n < n0) ∨ (k = 1 ∧ ∃ n : Nat, b = n ∧ n < n1) := by
  unfold okT roomT at h
  simp only [Bool.and_eq_true, Bool.not_eq_true', decide_eq_false_iff_not] at h
  obtain ⟨h1, h2⟩ := h
  by_cases g0 : k = 0
  · rw [if_pos g0] at h2
    exact .inl ⟨g0, b.toNat, by omega, by omega⟩
  rw [if_neg g0] at h2
  by_cases g1 : k = 1
  · rw [if_pos g1] at h2
    exact .inr ⟨g1, b.toNat, by omega, by omega⟩
  rw [if_neg g1] at h2
  omega
theorem known_one {t : Int} {l0 l1 : List S38} {fl : Bool} {k b : Int} (h : knownP t l0 l1 fl [⟨k, b⟩] = 0) : checkP t l0 l1 fl = 0 ∧ ((k = 0 ∧ ∃ n : Nat, b = n ∧ n < l0.length) ∨ (k = 1 ∧ ∃ n : Nat, b = n ∧ n < l1.length)) := by
  obtain ⟨h1, h2⟩ := known_zero h
  refine ⟨h1, ?_⟩
  simp only [scanT] at h2
  by_cases hk : okT l0.length l1.length ⟨k, b⟩ = true
  · exact okT_form hk
  · rw [if_neg hk] at h2; cases h2
theorem rd_mem {l : List S38} {n : Nat} (h : n < l.length) : rd_T38 l (n : Int) ∈ l := by
  rw [rd38 l n h]
  exact List.getElem_mem h
theorem good_charge {t : Int} {held : Bool} {s : S38} (ht : t ≤ 16) (h : goodP t held s = true) : 0 ≤ s.f2 ∧ s.f2 ≤ 1000 := by
  unfold goodP at h
  simp only [Bool.and_eq_true, Bool.not_eq_true', decide_eq_false_iff_not] at h
  obtain ⟨_, _, _, h4, h5, _⟩ := h
  omega
/-- a task's state -/
def stP (l0 l1 : List S38) (k b : Int) : S38 := if k = 0 then rd_T38 l0 b else rd_T38 l1 b
/-- a running attempt's end -/
def endP (t : Int) (l0 l1 : List S38) (fl : Bool) (k b : Int) (upd : S38 → S38) (uf : S38 → Bool) : Int × List S38 × List S38 × Bool × Int :=
  if knownP t l0 l1 fl [⟨k, b⟩] = 0 then
    if fl = true ∨ (stP l0 l1 k b).f0 ≠ 1 then (0, [], [], false, 192)
    else if k = 0 then (t, l0.set b.toNat (upd (stP l0 l1 k b)), l1, uf (stP l0 l1 k b), 0) else (t, l0, l1.set b.toNat (upd (stP l0 l1 k b)), uf (stP l0 l1 k b), 0)
  else (0, [], [], false, knownP t l0 l1 fl [⟨k, b⟩])

theorem ended_any (fid : Nat) (cap : Array Value) (hE : Enters Tryd.prog fid) (upd : S38 → S38) (uf : S38 → Bool) (t : Int) (fl : Bool) (A0 : Option Addr) (c0 : Nat) (l0 : List S38) (A1 : Option Addr) (c1 : Nat) (l1 : List S38) (k b : Int) (r1 : Int) (r2 r3 : List S38) (r4 : Bool) (r5 : Int) (w : World)
    (h0 : Kd.C k38 w A0 l0.length l0) (h1 : Kd.C k38 w A1 l1.length l1) (hl0 : l0.length ≤ 6000000000000) (hl1 : l1.length ≤ 6000000000000) (hT : Tab w)
    (hdo : ∀ (W : World) (gb gs off : Nat) (u0 u1 : Value) (s : S38), 0 ≤ s.f2 → s.f2 ≤ 1000 → bookAt W gb t u0 u1 false → taskAt W gs off s → gs ≠ gb → w.heap.size ≤ gs → Below w.heap.size w W →
      Calls Tryd.prog fid (#[.pointer (some ⟨gb, 0, none⟩), .pointer (some ⟨gs, off, none⟩)] ++ cap) W fun e w' => e = .returned (.tuple #[]) ∧ ∃ q, w' = (put4 W gs off (upd s) gb (uf s)).drewN q)
    (h : endP t l0 l1 fl k b upd uf = (r1, r2, r3, r4, r5)) :
    Calls Tryd.prog 45 #[.agg #[.int .i64 t, .slice A0 l0.length c0, .slice A1 l1.length c1, .bool fl], .agg #[.int .i64 k, .int .i64 b], .func (.func fid) #[] cap] w fun e_ w' =>
      ∃ v1 v2 : Value, e_ = .returned (.tuple #[.agg #[.int .i64 r1, v1, v2, .bool r4], .int .i64 r5]) ∧ Kd.R k38 38 w' w.heap.size (fun k => some k ≠ v2.ownBlock) v1 r2 ∧ Kd.R k38 38 w' w.heap.size (fun k => some k ≠ v1.ownBlock) v2 r3 ∧ Below w.heap.size w w' := by
  unfold endP at h
  by_cases hk : knownP t l0 l1 fl [⟨k, b⟩] = 0
  · rw [if_pos hk] at h
    obtain ⟨hc, hf⟩ := known_one hk
    obtain ⟨q1, q2, q3, q4, q5, q6, q7, _⟩ := check_ok hc
    rcases hf with ⟨rfl, n, rfl, hn⟩ | ⟨rfl, n, rfl, hn⟩
    · have hst : stP l0 l1 0 (n : Int) = rd_T38 l0 (n : Int) := by unfold stP; rw [if_pos rfl]
      rw [hst] at h
      by_cases hfl : fl = true
      · rw [if_pos (.inl hfl)] at h
        simp only [Prod.mk.injEq] at h
        obtain ⟨rfl, rfl, rfl, rfl, rfl⟩ := h
        refine (ended_failed_map fid cap hE t fl A0 c0 l0 A1 c1 l1 n w h0 h1 hl0 hl1 hT hk hfl).mono ?_
        rintro e w' ⟨rfl, hB⟩
        exact ⟨_, _, rfl, Kd.R_nil _ _ _ _ _, Kd.R_nil _ _ _ _ _, hB⟩
      · have hfl' : fl = false := by cases fl <;> simp_all
        by_cases hs : (rd_T38 l0 (n : Int)).f0 ≠ 1
        · rw [if_pos (.inr hs)] at h
          simp only [Prod.mk.injEq] at h
          obtain ⟨rfl, rfl, rfl, rfl, rfl⟩ := h
          refine (ended_wait_map fid cap hE t fl A0 c0 l0 A1 c1 l1 n w h0 h1 hl0 hl1 hT hk hfl' hn hs).mono ?_
          rintro e w' ⟨rfl, hB⟩
          exact ⟨_, _, rfl, Kd.R_nil _ _ _ _ _, Kd.R_nil _ _ _ _ _, hB⟩
        · rw [if_neg (by rintro (h | h); exact hfl h; exact hs h), if_pos rfl, Int.toNat_natCast] at h
          simp only [Prod.mk.injEq] at h
          obtain ⟨rfl, rfl, rfl, rfl, rfl⟩ := h
          have hgc := good_charge q2 (q6 _ (rd_mem hn))
          exact ended_go_map fid cap hE t fl A0 c0 l0 A1 c1 l1 n w h0 h1 hl0 hl1 hT hk hfl' hn (Classical.not_not.1 hs) (by omega) (by omega) _ _ (fun W gb gs off u0 u1 g1 g2 g3 g4 g5 => hdo W gb gs off u0 u1 _ hgc.1 hgc.2 (hfl' ▸ g1) g2 g3 g4 g5)
    · have hst : stP l0 l1 1 (n : Int) = rd_T38 l1 (n : Int) := by unfold stP; rw [if_neg (by decide)]
      rw [hst] at h
      by_cases hfl : fl = true
      · rw [if_pos (.inl hfl)] at h
        simp only [Prod.mk.injEq] at h
        obtain ⟨rfl, rfl, rfl, rfl, rfl⟩ := h
        refine (ended_failed_red fid cap hE t fl A0 c0 l0 A1 c1 l1 n w h0 h1 hl0 hl1 hT hk hfl).mono ?_
        rintro e w' ⟨rfl, hB⟩
        exact ⟨_, _, rfl, Kd.R_nil _ _ _ _ _, Kd.R_nil _ _ _ _ _, hB⟩
      · have hfl' : fl = false := by cases fl <;> simp_all
        by_cases hs : (rd_T38 l1 (n : Int)).f0 ≠ 1
        · rw [if_pos (.inr hs)] at h
          simp only [Prod.mk.injEq] at h
          obtain ⟨rfl, rfl, rfl, rfl, rfl⟩ := h
          refine (ended_wait_red fid cap hE t fl A0 c0 l0 A1 c1 l1 n w h0 h1 hl0 hl1 hT hk hfl' hn hs).mono ?_
          rintro e w' ⟨rfl, hB⟩
          exact ⟨_, _, rfl, Kd.R_nil _ _ _ _ _, Kd.R_nil _ _ _ _ _, hB⟩
        · rw [if_neg (by rintro (h | h); exact hfl h; exact hs h), if_neg (by decide), Int.toNat_natCast] at h
          simp only [Prod.mk.injEq] at h
          obtain ⟨rfl, rfl, rfl, rfl, rfl⟩ := h
          have hgc := good_charge q2 (q7 _ (rd_mem hn))
          exact ended_go_red fid cap hE t fl A0 c0 l0 A1 c1 l1 n w h0 h1 hl0 hl1 hT hk hfl' hn (Classical.not_not.1 hs) (by omega) (by omega) _ _ (fun W gb gs off u0 u1 g1 g2 g3 g4 g5 => hdo W gb gs off u0 u1 _ hgc.1 hgc.2 (hfl' ▸ g1) g2 g3 g4 g5)
  · rw [if_neg hk] at h
    simp only [Prod.mk.injEq] at h
    obtain ⟨rfl, rfl, rfl, rfl, rfl⟩ := h
    refine (ended_bad fid cap hE t fl A0 c0 l0 A1 c1 l1 k b w h0 h1 hl0 hl1 hT _ rfl hk).mono ?_
    rintro e w' ⟨rfl, hB⟩
    exact ⟨_, _, rfl, Kd.R_nil _ _ _ _ _, Kd.R_nil _ _ _ _ _, hB⟩

def doneP (t : Int) (l0 l1 : List S38) (fl : Bool) (k b : Int) : Int × List S38 × List S38 × Bool × Int := endP t l0 l1 fl k b (fun s => ⟨3, s.f1, s.f2⟩) (fun s => false)
set_option maxHeartbeats 4000000 in
set_option maxRecDepth 100000 in
theorem done_any (t : Int) (fl : Bool) (A0 : Option Addr) (c0 : Nat) (l0 : List S38) (A1 : Option Addr) (c1 : Nat) (l1 : List S38) (k b : Int) (r1 : Int) (r2 r3 : List S38) (r4 : Bool) (r5 : Int) (w : World)
    (h0 : Kd.C k38 w A0 l0.length l0) (h1 : Kd.C k38 w A1 l1.length l1) (hl0 : l0.length ≤ 6000000000000) (hl1 : l1.length ≤ 6000000000000) (hT : Tab w) (h : doneP t l0 l1 fl k b = (r1, r2, r3, r4, r5)) :
    Calls Tryd.prog 22 #[.agg #[.int .i64 t, .slice A0 l0.length c0, .slice A1 l1.length c1, .bool fl], .agg #[.int .i64 k, .int .i64 b]] w fun e_ w' =>
      ∃ v1 v2 : Value, e_ = .returned (.tuple #[.agg #[.int .i64 r1, v1, v2, .bool r4], .int .i64 r5]) ∧ Kd.R k38 38 w' w.heap.size (fun k => some k ≠ v2.ownBlock) v1 r2 ∧ Kd.R k38 38 w' w.heap.size (fun k => some k ≠ v1.ownBlock) v2 r3 ∧ Below w.heap.size w w' := by
  have hl3 := lays3_of w t (.slice A0 l0.length c0) (.slice A1 l1.length c1) fl k b
  obtain ⟨W3, hW3⟩ : ∃ W3, w3of w t (.slice A0 l0.length c0) (.slice A1 l1.length c1) fl k b = W3 := ⟨_, rfl⟩
  rw [hW3] at hl3
  unfold w3of at hW3
  have hen := ended_any 46 #[] (enters_of Tryd.func46 (by kernel_rfl) rfl) (fun s => ⟨3, s.f1, s.f2⟩) (fun s => false) t fl A0 c0 l0 A1 c1 l1 k b r1 r2 r3 r4 r5 W3 (Kd.C_below h0 hl3.q0) (Kd.C_below h1 hl3.q0) hl0 hl1 (hT.below hl3.q0)
    (fun W gb gs off u0 u1 s g1 g2 g3 g4 g5 g6 g7 => do_done W gb gs off t u0 u1 false s g3 g4 g5) h
  have HW3 := Aside0.mk hW3
  have HL := Aside0.mk hl3
  have HEN := Aside0.mk hen
  clear hW3 hl3 hen h0 h1 hl0 hl1 hT h
  have hu22 := Tryd.underlying22
  have hu29 := Tryd.underlying29
  have hu24 := Tryd.underlying24
  have hz0 := HL.out.q2.c0
  have hz1 := HL.out.q2.c1
  have hz2 := HL.out.q2.c2
  have hz3 := HL.out.q2.c3
  have hy0 : W3.cell? ⟨w.heap.size + 1, 0, none⟩ = some (.int .i64 k) := (blk_cell HL.out.q3 0).trans rfl
  have hy1 : W3.cell? ⟨w.heap.size + 1, 1, none⟩ = some (.int .i64 b) := (blk_cell HL.out.q3 1).trans rfl
  go_enter Tryd.func22, Tryd.ntmps22
  go_upto_region 1 with (fail)
  rw [HW3.out]
  clear HW3
  go_wp2_with (go_at_call 45; go_must (refine HEN.out.mono ?_; rintro e_ W4 ⟨v1, v2, rfl, hr1, hr2, hB6⟩; have HR1 := Aside0.mk (Kd.R_mono (Kd.R_bound hr1) (fun k hk => (⟨hk.1, hk.2.1⟩ : _ ∧ W3.heap.size ≤ k))); have HR2 := Aside0.mk (Kd.R_mono (Kd.R_bound hr2) (fun k hk => (⟨hk.1, hk.2.1⟩ : _ ∧ W3.heap.size ≤ k))); have HB6 := Aside0.mk (below_step HL.out.q0 hB6); have HZ := Aside0.mk (HL.out.below hB6).2.2.1; have HS := Aside0.mk HL.out.q1; have HB5 := Aside0.mk (below_size HL.out.q0); clear hr1 hr2 hB6 HEN HL hz0 hz1 hz2 hz3 hy0 hy1; obtain ⟨B1, d1, e1⟩ := Kd.R_slice HR1.out; subst e1; obtain ⟨B2, d2, e2⟩ := Kd.R_slice HR2.out; subst e2; have hc0 : W4.cell? ⟨w.heap.size + 1 + 1, 0, none⟩ = some (.int .i64 0) := (blk_cell HZ.out 0).trans rfl; have hc1 : W4.cell? ⟨w.heap.size + 1 + 1, 1, none⟩ = some (.slice none 0 0) := (blk_cell HZ.out 1).trans rfl; have hc2 : W4.cell? ⟨w.heap.size + 1 + 1, 2, none⟩ = some (.slice none 0 0) := (blk_cell HZ.out 2).trans rfl; have hc3 : W4.cell? ⟨w.heap.size + 1 + 1, 3, none⟩ = some (.bool false) := (blk_cell HZ.out 3).trans rfl; have hf0 : W4.frozen? ⟨w.heap.size + 1 + 1, 0, none⟩ = false := frozen_of_row _ _ _ _ _ HZ.out; have hf1 : W4.frozen? ⟨w.heap.size + 1 + 1, 1, none⟩ = false := frozen_of_row _ _ _ _ _ HZ.out; have hf2 : W4.frozen? ⟨w.heap.size + 1 + 1, 2, none⟩ = false := frozen_of_row _ _ _ _ _ HZ.out; have hf3 : W4.frozen? ⟨w.heap.size + 1 + 1, 3, none⟩ = false := frozen_of_row _ _ _ _ _ HZ.out))
  refine bodyPost_ret (results_ct rfl _ _ (w.heap.size + 1 + 1) 24 #[.int .i64 r1, .slice B1 r2.length d1, .slice B2 r3.length d2, .bool r4] (0, 0) _ rfl (by refine blk_put (cs := #[.int .i64 r1, .slice B1 r2.length d1, .slice B2 r3.length d2, .bool false]) ?_ 3 _ rfl; refine blk_put (cs := #[.int .i64 r1, .slice B1 r2.length d1, .slice none 0 0, .bool false]) ?_ 2 _ rfl; refine blk_put (cs := #[.int .i64 r1, .slice none 0 0, .slice none 0 0, .bool false]) ?_ 1 _ rfl; refine blk_put (cs := #[.int .i64 0, .slice none 0 0, .slice none 0 0, .bool false]) ?_ 0 _ rfl; exact HZ.out) Tryd.underlying24 rfl (by kernel_rfl)) rfl ?_
  have hs := HS.out
  refine ⟨_, _, rfl, ?_, ?_, (((HB6.out.setCell (by simp; omega) _).setCell (by simp; omega) _).setCell (by simp; omega) _).setCell (by simp; omega) _⟩
  · exact Kd.R_lower (Kd.R_mono (Kd.R_far (p := ⟨w.heap.size + 1 + 1, 3, none⟩) (Kd.R_far (p := ⟨w.heap.size + 1 + 1, 2, none⟩) (Kd.R_far (p := ⟨w.heap.size + 1 + 1, 1, none⟩) (Kd.R_far (p := ⟨w.heap.size + 1 + 1, 0, none⟩) HR1.out (fun k hk => by have := hk.2; simp; omega) _) (fun k hk => by have := hk.2; simp; omega) _) (fun k hk => by have := hk.2; simp; omega) _) (fun k hk => by have := hk.2; simp; omega) _) (fun k hk => hk.1)) HB5.out
  · exact Kd.R_lower (Kd.R_mono (Kd.R_far (p := ⟨w.heap.size + 1 + 1, 3, none⟩) (Kd.R_far (p := ⟨w.heap.size + 1 + 1, 2, none⟩) (Kd.R_far (p := ⟨w.heap.size + 1 + 1, 1, none⟩) (Kd.R_far (p := ⟨w.heap.size + 1 + 1, 0, none⟩) HR2.out (fun k hk => by have := hk.2; simp; omega) _) (fun k hk => by have := hk.2; simp; omega) _) (fun k hk => by have := hk.2; simp; omega) _) (fun k hk => by have := hk.2; simp; omega) _) (fun k hk => hk.1)) HB5.out

def diedP (t : Int) (l0 l1 : List S38) (fl : Bool) (k b : Int) : Int × List S38 × List S38 × Bool × Int := endP t l0 l1 fl k b (fun s => ⟨0, s.f1, s.f2 + 1⟩) (fun s => false || decide (s.f2 + 1 = t))
set_option maxHeartbeats 4000000 in
set_option maxRecDepth 100000 in
theorem died_any (t : Int) (fl : Bool) (A0 : Option Addr) (c0 : Nat) (l0 : List S38) (A1 : Option Addr) (c1 : Nat) (l1 : List S38) (k b : Int) (r1 : Int) (r2 r3 : List S38) (r4 : Bool) (r5 : Int) (w : World)
    (h0 : Kd.C k38 w A0 l0.length l0) (h1 : Kd.C k38 w A1 l1.length l1) (hl0 : l0.length ≤ 6000000000000) (hl1 : l1.length ≤ 6000000000000) (hT : Tab w) (h : diedP t l0 l1 fl k b = (r1, r2, r3, r4, r5)) :
    Calls Tryd.prog 24 #[.agg #[.int .i64 t, .slice A0 l0.length c0, .slice A1 l1.length c1, .bool fl], .agg #[.int .i64 k, .int .i64 b]] w fun e_ w' =>
      ∃ v1 v2 : Value, e_ = .returned (.tuple #[.agg #[.int .i64 r1, v1, v2, .bool r4], .int .i64 r5]) ∧ Kd.R k38 38 w' w.heap.size (fun k => some k ≠ v2.ownBlock) v1 r2 ∧ Kd.R k38 38 w' w.heap.size (fun k => some k ≠ v1.ownBlock) v2 r3 ∧ Below w.heap.size w w' := by
  have hl3 := lays3_of w t (.slice A0 l0.length c0) (.slice A1 l1.length c1) fl k b
  obtain ⟨W3, hW3⟩ : ∃ W3, w3of w t (.slice A0 l0.length c0) (.slice A1 l1.length c1) fl k b = W3 := ⟨_, rfl⟩
  rw [hW3] at hl3
  unfold w3of at hW3
  have hen := ended_any 50 #[] (enters_of Tryd.func50 (by kernel_rfl) rfl) (fun s => ⟨0, s.f1, s.f2 + 1⟩) (fun s => false || decide (s.f2 + 1 = t)) t fl A0 c0 l0 A1 c1 l1 k b r1 r2 r3 r4 r5 W3 (Kd.C_below h0 hl3.q0) (Kd.C_below h1 hl3.q0) hl0 hl1 (hT.below hl3.q0)
    (fun W gb gs off u0 u1 s g1 g2 g3 g4 g5 g6 g7 => do_charge W gb gs off t u0 u1 false s g3 g4 g5 g1 g2) h
  have HW3 := Aside0.mk hW3
  have HL := Aside0.mk hl3
  have HEN := Aside0.mk hen
  clear hW3 hl3 hen h0 h1 hl0 hl1 hT h
  have hu22 := Tryd.underlying22
  have hu29 := Tryd.underlying29
  have hu24 := Tryd.underlying24
  have hz0 := HL.out.q2.c0
  have hz1 := HL.out.q2.c1
  have hz2 := HL.out.q2.c2
  have hz3 := HL.out.q2.c3
  have hy0 : W3.cell? ⟨w.heap.size + 1, 0, none⟩ = some (.int .i64 k) := (blk_cell HL.out.q3 0).trans rfl
  have hy1 : W3.cell? ⟨w.heap.size + 1, 1, none⟩ = some (.int .i64 b) := (blk_cell HL.out.q3 1).trans rfl
  go_enter Tryd.func24, Tryd.ntmps24
  go_upto_region 1 with (fail)
  rw [HW3.out]
  clear HW3
  go_wp2_with (go_at_call 45; go_must (refine HEN.out.mono ?_; rintro e_ W4 ⟨v1, v2, rfl, hr1, hr2, hB6⟩; have HR1 := Aside0.mk (Kd.R_mono (Kd.R_bound hr1) (fun k hk => (⟨hk.1, hk.2.1⟩ : _ ∧ W3.heap.size ≤ k))); have HR2 := Aside0.mk (Kd.R_mono (Kd.R_bound hr2) (fun k hk => (⟨hk.1, hk.2.1⟩ : _ ∧ W3.heap.size ≤ k))); have HB6 := Aside0.mk (below_step HL.out.q0 hB6); have HZ := Aside0.mk (HL.out.below hB6).2.2.1; have HS := Aside0.mk HL.out.q1; have HB5 := Aside0.mk (below_size HL.out.q0); clear hr1 hr2 hB6 HEN HL hz0 hz1 hz2 hz3 hy0 hy1; obtain ⟨B1, d1, e1⟩ := Kd.R_slice HR1.out; subst e1; obtain ⟨B2, d2, e2⟩ := Kd.R_slice HR2.out; subst e2; have hc0 : W4.cell? ⟨w.heap.size + 1 + 1, 0, none⟩ = some (.int .i64 0) := (blk_cell HZ.out 0).trans rfl; have hc1 : W4.cell? ⟨w.heap.size + 1 + 1, 1, none⟩ = some (.slice none 0 0) := (blk_cell HZ.out 1).trans rfl; have hc2 : W4.cell? ⟨w.heap.size + 1 + 1, 2, none⟩ = some (.slice none 0 0) := (blk_cell HZ.out 2).trans rfl; have hc3 : W4.cell? ⟨w.heap.size + 1 + 1, 3, none⟩ = some (.bool false) := (blk_cell HZ.out 3).trans rfl; have hf0 : W4.frozen? ⟨w.heap.size + 1 + 1, 0, none⟩ = false := frozen_of_row _ _ _ _ _ HZ.out; have hf1 : W4.frozen? ⟨w.heap.size + 1 + 1, 1, none⟩ = false := frozen_of_row _ _ _ _ _ HZ.out; have hf2 : W4.frozen? ⟨w.heap.size + 1 + 1, 2, none⟩ = false := frozen_of_row _ _ _ _ _ HZ.out; have hf3 : W4.frozen? ⟨w.heap.size + 1 + 1, 3, none⟩ = false := frozen_of_row _ _ _ _ _ HZ.out))
  refine bodyPost_ret (results_ct rfl _ _ (w.heap.size + 1 + 1) 24 #[.int .i64 r1, .slice B1 r2.length d1, .slice B2 r3.length d2, .bool r4] (0, 0) _ rfl (by refine blk_put (cs := #[.int .i64 r1, .slice B1 r2.length d1, .slice B2 r3.length d2, .bool false]) ?_ 3 _ rfl; refine blk_put (cs := #[.int .i64 r1, .slice B1 r2.length d1, .slice none 0 0, .bool false]) ?_ 2 _ rfl; refine blk_put (cs := #[.int .i64 r1, .slice none 0 0, .slice none 0 0, .bool false]) ?_ 1 _ rfl; refine blk_put (cs := #[.int .i64 0, .slice none 0 0, .slice none 0 0, .bool false]) ?_ 0 _ rfl; exact HZ.out) Tryd.underlying24 rfl (by kernel_rfl)) rfl ?_
  have hs := HS.out
  refine ⟨_, _, rfl, ?_, ?_, (((HB6.out.setCell (by simp; omega) _).setCell (by simp; omega) _).setCell (by simp; omega) _).setCell (by simp; omega) _⟩
  · exact Kd.R_lower (Kd.R_mono (Kd.R_far (p := ⟨w.heap.size + 1 + 1, 3, none⟩) (Kd.R_far (p := ⟨w.heap.size + 1 + 1, 2, none⟩) (Kd.R_far (p := ⟨w.heap.size + 1 + 1, 1, none⟩) (Kd.R_far (p := ⟨w.heap.size + 1 + 1, 0, none⟩) HR1.out (fun k hk => by have := hk.2; simp; omega) _) (fun k hk => by have := hk.2; simp; omega) _) (fun k hk => by have := hk.2; simp; omega) _) (fun k hk => by have := hk.2; simp; omega) _) (fun k hk => hk.1)) HB5.out
  · exact Kd.R_lower (Kd.R_mono (Kd.R_far (p := ⟨w.heap.size + 1 + 1, 3, none⟩) (Kd.R_far (p := ⟨w.heap.size + 1 + 1, 2, none⟩) (Kd.R_far (p := ⟨w.heap.size + 1 + 1, 1, none⟩) (Kd.R_far (p := ⟨w.heap.size + 1 + 1, 0, none⟩) HR2.out (fun k hk => by have := hk.2; simp; omega) _) (fun k hk => by have := hk.2; simp; omega) _) (fun k hk => by have := hk.2; simp; omega) _) (fun k hk => by have := hk.2; simp; omega) _) (fun k hk => hk.1)) HB5.out
end Go.Proofs.YtponmfnegdlppaaDoor.P

end
section
/- ledger.Blame, by hand (printed by HBlame.gen.py). -/
namespace Go.Proofs.YtponmfnegdlppaaDoor.P
open Go.RowKit Go.Proofs.YtponmfnegdlppaaDoorW.PrintWords Go.Proofs.YtponmfnegdlppaaDoorW.PrintLast Go.Proofs.YtponmfnegdlppaaDoorW.PrintMore
set_option linter.unusedVariables false
set_option linter.unusedSimpArgs false

theorem C_two (W : World) (k b k2 b2 : Int) : Kd.C k29 (W.alloc (.cells #[.int .i64 k, .int .i64 b, .int .i64 k2, .int .i64 b2] 29)) (some ⟨W.heap.size, 0, none⟩) 2 [⟨k, b⟩, ⟨k2, b2⟩] := by
  have h : Kd.R k29 29 (W.alloc (.cells #[.int .i64 k, .int .i64 b, .int .i64 k2, .int .i64 b2] 29)) W.heap.size (fun _ => True) (.slice (some ⟨W.heap.size, 0, none⟩) 2 2) [⟨k, b⟩, ⟨k2, b2⟩] :=
    ⟨fun _ _ => trivial, [.int .i64 k, .int .i64 b, .int .i64 k2, .int .i64 b2], World.ownsRow_lit (base := W.heap.size) (e := 29) (size := k29.sz) W #[.int .i64 k, .int .i64 b, .int .i64 k2, .int .i64 b2] 2 (Nat.le_refl _) (by simp [maxLen]) (by rfl), Reps.c2 (k29_mkM _ _ _ ⟨k, b⟩) (Reps.c2 (k29_mkM _ _ _ ⟨k2, b2⟩) (Reps.none _ _))⟩
  exact (Kd.R_reads' h).2.2
/-- the blocks that Blame lays first -/
structure lays4 (w W3 : World) (t : Int) (u0 u1 : Value) (fl : Bool) (a b : Int) : Prop where
  q0 : Below w.heap.size w W3
  q1 : W3.heap.size = w.heap.size + 4
  q2 : bookAt W3 w.heap.size t u0 u1 fl
  q3 : bookAt W3 (w.heap.size + 1) 0 (.slice none 0 0) (.slice none 0 0) false
  q4 : W3.heap[w.heap.size + 1 + 1]? = some (.cells #[.int .i64 1, .int .i64 a] 29 (0, 0))
  q5 : W3.heap[w.heap.size + 1 + 1 + 1]? = some (.cells #[.int .i64 0, .int .i64 b] 29 (0, 0))
def w4of (w : World) (t : Int) (u0 u1 : Value) (fl : Bool) (a b : Int) : World := (((w.alloc (.cells #[.int .i64 t, u0, u1, .bool fl] 24)).alloc (.cells #[.int .i64 0, .slice none 0 0, .slice none 0 0, .bool false] 24)).alloc (.cells #[.int .i64 1, .int .i64 a] 29)).alloc (.cells #[.int .i64 0, .int .i64 b] 29)
theorem lays4_of (w : World) (t : Int) (u0 u1 : Value) (fl : Bool) (a b : Int) : lays4 w (w4of w t u0 u1 fl a b) t u0 u1 fl a b := by
  unfold w4of
  have s1 : (w.alloc (.cells #[.int .i64 t, u0, u1, .bool fl] 24)).heap.size = w.heap.size + 1 := by simp
  have e0 := heap_alloc_new w (.cells #[.int .i64 t, u0, u1, .bool fl] 24)
  have e1 := heap_alloc_new (w.alloc (.cells #[.int .i64 t, u0, u1, .bool fl] 24)) (.cells #[.int .i64 0, .slice none 0 0, .slice none 0 0, .bool false] 24)
  rw [s1] at e1
  generalize hA : w.alloc (.cells #[.int .i64 t, u0, u1, .bool fl] 24) = A at *
  have s2 : (A.alloc (.cells #[.int .i64 0, .slice none 0 0, .slice none 0 0, .bool false] 24)).heap.size = w.heap.size + 1 + 1 := by simp [s1]
  have e2 := heap_alloc_new (A.alloc (.cells #[.int .i64 0, .slice none 0 0, .slice none 0 0, .bool false] 24)) (.cells #[.int .i64 1, .int .i64 a] 29)
  rw [s2] at e2
  have bA : Below w.heap.size w A := by rw [← hA]; exact below_alloc (Below.refl _ _) _
  have bB : Below A.heap.size A (A.alloc (.cells #[.int .i64 0, .slice none 0 0, .slice none 0 0, .bool false] 24)) := below_alloc (Below.refl _ _) _
  generalize A.alloc (.cells #[.int .i64 0, .slice none 0 0, .slice none 0 0, .bool false] 24) = B at *
  have s3 : (B.alloc (.cells #[.int .i64 1, .int .i64 a] 29)).heap.size = w.heap.size + 1 + 1 + 1 := by simp [s2]
  have e3 := heap_alloc_new (B.alloc (.cells #[.int .i64 1, .int .i64 a] 29)) (.cells #[.int .i64 0, .int .i64 b] 29)
  rw [s3] at e3
  have bC : Below B.heap.size B (B.alloc (.cells #[.int .i64 1, .int .i64 a] 29)) := below_alloc (Below.refl _ _) _
  generalize B.alloc (.cells #[.int .i64 1, .int .i64 a] 29) = C at *
  have bD : Below C.heap.size C (C.alloc (.cells #[.int .i64 0, .int .i64 b] 29)) := below_alloc (Below.refl _ _) _
  have s4 : (C.alloc (.cells #[.int .i64 0, .int .i64 b] 29)).heap.size = w.heap.size + 4 := by simp [s3]
  generalize C.alloc (.cells #[.int .i64 0, .int .i64 b] 29) = D at *
  exact ⟨below_step (below_step (below_step bA bB) bC) bD, s4, (bD.block _ (by omega)).trans ((bC.block _ (by omega)).trans ((bB.block _ (by omega)).trans e0)), (bD.block _ (by omega)).trans ((bC.block _ (by omega)).trans e1), (bD.block _ (by omega)).trans e2, e3⟩
theorem lays4.below {w W3 W : World} {t : Int} {u0 u1 : Value} {fl : Bool} {a b : Int} (h : lays4 w W3 t u0 u1 fl a b) (hb : Below W3.heap.size W3 W) :
    bookAt W w.heap.size t u0 u1 fl ∧ bookAt W (w.heap.size + 1) 0 (.slice none 0 0) (.slice none 0 0) false ∧ W.heap[w.heap.size + 1 + 1]? = some (.cells #[.int .i64 1, .int .i64 a] 29 (0, 0)) ∧ Below w.heap.size w W ∧ w.heap.size + 4 ≤ W.heap.size :=
  ⟨h.q2.below hb h.q2.lt, h.q3.below hb h.q3.lt, (hb.block _ (by have := h.q1; omega)).trans h.q4, below_step h.q0 hb, by have := hb.size; have := h.q1; omega⟩

set_option maxHeartbeats 4000000 in
set_option maxRecDepth 100000 in
theorem blame_bad (t : Int) (fl : Bool) (A0 : Option Addr) (c0 : Nat) (l0 : List S38) (A1 : Option Addr) (c1 : Nat) (l1 : List S38) (a b c : Int) (w : World)
    (h0 : Kd.C k38 w A0 l0.length l0) (h1 : Kd.C k38 w A1 l1.length l1) (hl0 : l0.length ≤ 6000000000000) (hl1 : l1.length ≤ 6000000000000) (hT : Tab w) (e : Int) (he : knownP t l0 l1 fl [⟨1, a⟩, ⟨0, b⟩] = e) (hne : e ≠ 0) :
    Calls Tryd.prog 30 #[.agg #[.int .i64 t, .slice A0 l0.length c0, .slice A1 l1.length c1, .bool fl], .int .i64 a, .int .i64 b, .int .i64 c] w fun e_ w' => e_ = .returned (.tuple #[.agg #[.int .i64 0, .slice none 0 0, .slice none 0 0, .bool false], .bool false, .int .i64 e]) ∧ Below w.heap.size w w' := by
  have hl3 := lays4_of w t (.slice A0 l0.length c0) (.slice A1 l1.length c1) fl a b
  have hba : Below w.heap.size w ((w4of w t (.slice A0 l0.length c0) (.slice A1 l1.length c1) fl a b).alloc (.cells #[.int .i64 1, .int .i64 a, .int .i64 0, .int .i64 b] 29)) := below_alloc hl3.q0 _
  have hkn := known_any t fl A0 c0 l0 A1 c1 l1 (some ⟨(w4of w t (.slice A0 l0.length c0) (.slice A1 l1.length c1) fl a b).heap.size, 0, none⟩) 2 [⟨1, a⟩, ⟨0, b⟩] ((w4of w t (.slice A0 l0.length c0) (.slice A1 l1.length c1) fl a b).alloc (.cells #[.int .i64 1, .int .i64 a, .int .i64 0, .int .i64 b] 29)) (Kd.C_below h0 hba) (Kd.C_below h1 hba) (C_two (w4of w t (.slice A0 l0.length c0) (.slice A1 l1.length c1) fl a b) 1 a 0 b) (by simp) hl0 hl1 (hT.below hba)
  rw [he] at hkn
  have H0 := Aside0.mk h0
  have H1 := Aside0.mk h1
  have HT := Aside0.mk hT
  have HL0 := Aside0.mk (And.intro hl0 hl1)
  obtain ⟨W3, hW3⟩ : ∃ W3, (w4of w t (.slice A0 l0.length c0) (.slice A1 l1.length c1) fl a b) = W3 := ⟨_, rfl⟩
  rw [hW3] at hl3 hba hkn
  unfold w4of at hW3
  have HW3 := Aside0.mk hW3
  have HL := Aside0.mk hl3
  have HKN := Aside0.mk hkn
  have ha := below_alloc (Below.refl W3.heap.size W3) (.cells #[.int .i64 1, .int .i64 a, .int .i64 0, .int .i64 b] 29)
  have HBA := Aside0.mk ha
  clear hba hkn h0 h1 he hl3 hT hl0 hl1 ha hW3
  have hu22 := Tryd.underlying22
  have hu29 := Tryd.underlying29
  have hu24 := Tryd.underlying24
  have hu38 := Tryd.underlying38
  have hu26 := Tryd.underlying26
  have hz0 := HL.out.q2.c0
  have hz1 := HL.out.q2.c1
  have hz2 := HL.out.q2.c2
  have hz3 := HL.out.q2.c3
  have hy0 : W3.cell? ⟨w.heap.size + 1 + 1, 0, none⟩ = some (.int .i64 1) := (blk_cell HL.out.q4 0).trans rfl
  have hy1 : W3.cell? ⟨w.heap.size + 1 + 1, 1, none⟩ = some (.int .i64 a) := (blk_cell HL.out.q4 1).trans rfl
  have hy2 : W3.cell? ⟨w.heap.size + 1 + 1 + 1, 0, none⟩ = some (.int .i64 0) := (blk_cell HL.out.q5 0).trans rfl
  have hy3 : W3.cell? ⟨w.heap.size + 1 + 1 + 1, 1, none⟩ = some (.int .i64 b) := (blk_cell HL.out.q5 1).trans rfl
  have hn1 : (e != 0) = true := bne_iff_ne.2 hne
  clear hne
  go_enter Tryd.func30, Tryd.ntmps30
  go_upto_region 2 with (fail)
  rw [HW3.out]
  clear HW3
  go_wp2_with (go_at_call 54; go_must (refine HKN.out.mono ?_; rintro e_ W4 ⟨rfl, hB4⟩; have HF := Aside0.mk (HL.out.below (below_step HBA.out hB4)); clear hB4 HL HKN HBA hz0 hz1 hz2 hz3 hy0 hy1 hy2 hy3; have hc0 : W4.cell? ⟨w.heap.size + 1, 0, none⟩ = some (.int .i64 0) := HF.out.2.1.c0; have hc1 : W4.cell? ⟨w.heap.size + 1, 1, none⟩ = some (.slice none 0 0) := HF.out.2.1.c1; have hc2 : W4.cell? ⟨w.heap.size + 1, 2, none⟩ = some (.slice none 0 0) := HF.out.2.1.c2; have hc3 : W4.cell? ⟨w.heap.size + 1, 3, none⟩ = some (.bool false) := HF.out.2.1.c3; have hf0 : W4.frozen? ⟨w.heap.size + 1, 0, none⟩ = false := frozen_of_row _ _ _ _ _ HF.out.2.1; have hf1 : W4.frozen? ⟨w.heap.size + 1, 1, none⟩ = false := frozen_of_row _ _ _ _ _ HF.out.2.1; have hf2 : W4.frozen? ⟨w.heap.size + 1, 2, none⟩ = false := frozen_of_row _ _ _ _ _ HF.out.2.1; have hf3 : W4.frozen? ⟨w.heap.size + 1, 3, none⟩ = false := frozen_of_row _ _ _ _ _ HF.out.2.1))
  refine bodyPost_ret (results_ctt rfl _ _ (w.heap.size + 1) 24 #[.int .i64 0, .slice none 0 0, .slice none 0 0, .bool false] (0, 0) _ rfl (by refine blk_put (cs := #[.int .i64 0, .slice none 0 0, .slice none 0 0, .bool false]) ?_ 3 _ rfl; refine blk_put (cs := #[.int .i64 0, .slice none 0 0, .slice none 0 0, .bool false]) ?_ 2 _ rfl; refine blk_put (cs := #[.int .i64 0, .slice none 0 0, .slice none 0 0, .bool false]) ?_ 1 _ rfl; refine blk_put (cs := #[.int .i64 0, .slice none 0 0, .slice none 0 0, .bool false]) ?_ 0 _ rfl; exact HF.out.2.1) Tryd.underlying24 rfl (by kernel_rfl)) rfl ?_
  exact ⟨rfl, (((HF.out.2.2.2.1.setCell (by simp) _).setCell (by simp) _).setCell (by simp) _).setCell (by simp) _⟩

set_option maxHeartbeats 4000000 in
set_option maxRecDepth 100000 in
theorem blame_arg1 (t : Int) (fl : Bool) (A0 : Option Addr) (c0 : Nat) (l0 : List S38) (A1 : Option Addr) (c1 : Nat) (l1 : List S38) (a : Int) (b : Nat) (c : Int) (w : World)
    (h0 : Kd.C k38 w A0 l0.length l0) (h1 : Kd.C k38 w A1 l1.length l1) (hl0 : l0.length ≤ 6000000000000) (hl1 : l1.length ≤ 6000000000000) (hT : Tab w) (he : knownP t l0 l1 fl [⟨1, a⟩, ⟨0, (b : Int)⟩] = 0) (hb : b < l0.length) (hc : c < 1) :
    Calls Tryd.prog 30 #[.agg #[.int .i64 t, .slice A0 l0.length c0, .slice A1 l1.length c1, .bool fl], .int .i64 a, .int .i64 b, .int .i64 c] w fun e_ w' => e_ = .returned (.tuple #[.agg #[.int .i64 0, .slice none 0 0, .slice none 0 0, .bool false], .bool false, .int .i64 3]) ∧ Below w.heap.size w w' := by
  have hl3 := lays4_of w t (.slice A0 l0.length c0) (.slice A1 l1.length c1) fl a b
  have hba : Below w.heap.size w ((w4of w t (.slice A0 l0.length c0) (.slice A1 l1.length c1) fl a b).alloc (.cells #[.int .i64 1, .int .i64 a, .int .i64 0, .int .i64 b] 29)) := below_alloc hl3.q0 _
  have hkn := known_any t fl A0 c0 l0 A1 c1 l1 (some ⟨(w4of w t (.slice A0 l0.length c0) (.slice A1 l1.length c1) fl a b).heap.size, 0, none⟩) 2 [⟨1, a⟩, ⟨0, b⟩] ((w4of w t (.slice A0 l0.length c0) (.slice A1 l1.length c1) fl a b).alloc (.cells #[.int .i64 1, .int .i64 a, .int .i64 0, .int .i64 b] 29)) (Kd.C_below h0 hba) (Kd.C_below h1 hba) (C_two (w4of w t (.slice A0 l0.length c0) (.slice A1 l1.length c1) fl a b) 1 a 0 b) (by simp) hl0 hl1 (hT.below hba)
  rw [he] at hkn
  have H0 := Aside0.mk h0
  have H1 := Aside0.mk h1
  have HT := Aside0.mk hT
  have HL0 := Aside0.mk (And.intro hl0 hl1)
  obtain ⟨W3, hW3⟩ : ∃ W3, (w4of w t (.slice A0 l0.length c0) (.slice A1 l1.length c1) fl a b) = W3 := ⟨_, rfl⟩
  rw [hW3] at hl3 hba hkn
  unfold w4of at hW3
  have HW3 := Aside0.mk hW3
  have HL := Aside0.mk hl3
  have HKN := Aside0.mk hkn
  have ha := below_alloc (Below.refl W3.heap.size W3) (.cells #[.int .i64 1, .int .i64 a, .int .i64 0, .int .i64 b] 29)
  have HBA := Aside0.mk ha
  clear hba hkn h0 h1 he hl3 hT hl0 hl1 ha hW3
  have hu22 := Tryd.underlying22
  have hu29 := Tryd.underlying29
  have hu24 := Tryd.underlying24
  have hu38 := Tryd.underlying38
  have hu26 := Tryd.underlying26
  have hz0 := HL.out.q2.c0
  have hz1 := HL.out.q2.c1
  have hz2 := HL.out.q2.c2
  have hz3 := HL.out.q2.c3
  have hy0 : W3.cell? ⟨w.heap.size + 1 + 1, 0, none⟩ = some (.int .i64 1) := (blk_cell HL.out.q4 0).trans rfl
  have hy1 : W3.cell? ⟨w.heap.size + 1 + 1, 1, none⟩ = some (.int .i64 a) := (blk_cell HL.out.q4 1).trans rfl
  have hy2 : W3.cell? ⟨w.heap.size + 1 + 1 + 1, 0, none⟩ = some (.int .i64 0) := (blk_cell HL.out.q5 0).trans rfl
  have hy3 : W3.cell? ⟨w.heap.size + 1 + 1 + 1, 1, none⟩ = some (.int .i64 b) := (blk_cell HL.out.q5 1).trans rfl
  obtain ⟨ad, ea, hx0, hx1, hx2⟩ := at_T38 H0.out (b : Int) (by omega) (by omega)
  subst ea
  rw [Int.toNat_natCast] at hx0 hx1 hx2
  obtain ⟨⟨sa, s1, s2⟩, hs⟩ : ∃ s, rd_T38 l0 (b : Int) = s := ⟨_, rfl⟩
  rw [hs] at hx0 hx1 hx2
  dsimp only at *
  have HX := Aside0.mk (And.intro hx0 (And.intro hx1 hx2))
  have HBI := Aside0.mk hb
  clear hx0 hx1 hx2 hs
  have d1 : decide (c < 1) = true := decide_eq_true hc
  clear hc
  go_enter Tryd.func30, Tryd.ntmps30
  go_upto_region 2 with (fail)
  rw [HW3.out]
  clear HW3
  go_upto_region 5 with (go_at_call 54; go_must (refine HKN.out.mono ?_; rintro e_ W4 ⟨rfl, hB4⟩; have HF := Aside0.mk (HL.out.below (below_step HBA.out hB4)); clear hB4 HL HKN HBA hz0 hz1 hz2 hz3 hy0 hy1 hy2 hy3))
  have hz1 := HF.out.1.c1
  have hx0 := (HF.out.2.2.2.1.cell (World.block_lt_of_cell? w _ HX.out.1)).trans HX.out.1
  have hx1 := (HF.out.2.2.2.1.cell (World.block_lt_of_cell? w _ HX.out.2.1)).trans HX.out.2.1
  have hx2 := (HF.out.2.2.2.1.cell (World.block_lt_of_cell? w _ HX.out.2.2)).trans HX.out.2.2
  go_upto_region 6 with (fail)
  obtain ⟨W5, hW5⟩ : ∃ W5, W5 = W4.alloc (.cells #[.int .i64 sa, .int .i64 s1, .int .i64 s2] 38) := ⟨_, rfl⟩
  rw [← hW5]
  have hb5 : Below W4.heap.size W4 W5 := by rw [hW5]; exact below_alloc (Below.refl _ _) _
  have hs5 : W5.heap.size = W4.heap.size + 1 := by rw [hW5]; simp
  have hr14 : W5.heap[W4.heap.size]? = some (.cells #[.int .i64 sa, .int .i64 s1, .int .i64 s2] 38 (0, 0)) := by rw [hW5]; exact heap_alloc_new W4 _
  have HM := Aside0.mk (show bookAt W5 w.heap.size t _ _ fl ∧ bookAt W5 (w.heap.size + 1) 0 (.slice none 0 0) (.slice none 0 0) false ∧ W5.heap[w.heap.size + 1 + 1]? = some (.cells #[.int .i64 1, .int .i64 a] 29 (0, 0)) ∧ Below w.heap.size w W5 ∧ w.heap.size + 4 ≤ W4.heap.size ∧ W5.heap.size = W4.heap.size + 1 ∧ W5.heap[W4.heap.size]? = some (.cells #[.int .i64 sa, .int .i64 s1, .int .i64 s2] 38 (0, 0)) from
    ⟨HF.out.1.below hb5 HF.out.1.lt, HF.out.2.1.below hb5 HF.out.2.1.lt, (hb5.block _ (by have := HF.out.2.2.2.2; omega)).trans HF.out.2.2.1, below_step HF.out.2.2.2.1 hb5, HF.out.2.2.2.2, hs5, hr14⟩)
  have hm1 : W5.cell? ⟨W4.heap.size, 1, none⟩ = some (.int .i64 s1) := (blk_cell hr14 1).trans rfl
  clear hW5 hb5 hs5 hr14 HF hz1 hx0 hx1 hx2
  have hc0 : W5.cell? ⟨w.heap.size + 1, 0, none⟩ = some (.int .i64 0) := HM.out.2.1.c0
  have hc1 : W5.cell? ⟨w.heap.size + 1, 1, none⟩ = some (.slice none 0 0) := HM.out.2.1.c1
  have hc2 : W5.cell? ⟨w.heap.size + 1, 2, none⟩ = some (.slice none 0 0) := HM.out.2.1.c2
  have hc3 : W5.cell? ⟨w.heap.size + 1, 3, none⟩ = some (.bool false) := HM.out.2.1.c3
  have hf0 : W5.frozen? ⟨w.heap.size + 1, 0, none⟩ = false := frozen_of_row _ _ _ _ _ HM.out.2.1
  have hf1 : W5.frozen? ⟨w.heap.size + 1, 1, none⟩ = false := frozen_of_row _ _ _ _ _ HM.out.2.1
  have hf2 : W5.frozen? ⟨w.heap.size + 1, 2, none⟩ = false := frozen_of_row _ _ _ _ _ HM.out.2.1
  have hf3 : W5.frozen? ⟨w.heap.size + 1, 3, none⟩ = false := frozen_of_row _ _ _ _ _ HM.out.2.1
  go_wp2_with fail
  refine bodyPost_ret (results_ctt rfl _ _ (w.heap.size + 1) 24 #[.int .i64 0, .slice none 0 0, .slice none 0 0, .bool false] (0, 0) _ rfl (by refine blk_put (cs := #[.int .i64 0, .slice none 0 0, .slice none 0 0, .bool false]) ?_ 3 _ rfl; refine blk_put (cs := #[.int .i64 0, .slice none 0 0, .slice none 0 0, .bool false]) ?_ 2 _ rfl; refine blk_put (cs := #[.int .i64 0, .slice none 0 0, .slice none 0 0, .bool false]) ?_ 1 _ rfl; refine blk_put (cs := #[.int .i64 0, .slice none 0 0, .slice none 0 0, .bool false]) ?_ 0 _ rfl; exact HM.out.2.1) Tryd.underlying24 rfl (by kernel_rfl)) rfl ?_
  exact ⟨rfl, (((HM.out.2.2.2.1.setCell (by simp) _).setCell (by simp) _).setCell (by simp) _).setCell (by simp) _⟩

set_option maxHeartbeats 4000000 in
set_option maxRecDepth 100000 in
theorem blame_arg2 (t : Int) (fl : Bool) (A0 : Option Addr) (c0 : Nat) (l0 : List S38) (A1 : Option Addr) (c1 : Nat) (l1 : List S38) (a : Int) (b : Nat) (c : Int) (w : World)
    (h0 : Kd.C k38 w A0 l0.length l0) (h1 : Kd.C k38 w A1 l1.length l1) (hl0 : l0.length ≤ 6000000000000) (hl1 : l1.length ≤ 6000000000000) (hT : Tab w) (he : knownP t l0 l1 fl [⟨1, a⟩, ⟨0, (b : Int)⟩] = 0) (hb : b < l0.length) (hc : ¬ c < 1) (hc2 : (rd_T38 l0 (b : Int)).f1 < c) :
    Calls Tryd.prog 30 #[.agg #[.int .i64 t, .slice A0 l0.length c0, .slice A1 l1.length c1, .bool fl], .int .i64 a, .int .i64 b, .int .i64 c] w fun e_ w' => e_ = .returned (.tuple #[.agg #[.int .i64 0, .slice none 0 0, .slice none 0 0, .bool false], .bool false, .int .i64 3]) ∧ Below w.heap.size w w' := by
  have hl3 := lays4_of w t (.slice A0 l0.length c0) (.slice A1 l1.length c1) fl a b
  have hba : Below w.heap.size w ((w4of w t (.slice A0 l0.length c0) (.slice A1 l1.length c1) fl a b).alloc (.cells #[.int .i64 1, .int .i64 a, .int .i64 0, .int .i64 b] 29)) := below_alloc hl3.q0 _
  have hkn := known_any t fl A0 c0 l0 A1 c1 l1 (some ⟨(w4of w t (.slice A0 l0.length c0) (.slice A1 l1.length c1) fl a b).heap.size, 0, none⟩) 2 [⟨1, a⟩, ⟨0, b⟩] ((w4of w t (.slice A0 l0.length c0) (.slice A1 l1.length c1) fl a b).alloc (.cells #[.int .i64 1, .int .i64 a, .int .i64 0, .int .i64 b] 29)) (Kd.C_below h0 hba) (Kd.C_below h1 hba) (C_two (w4of w t (.slice A0 l0.length c0) (.slice A1 l1.length c1) fl a b) 1 a 0 b) (by simp) hl0 hl1 (hT.below hba)
  rw [he] at hkn
  have H0 := Aside0.mk h0
  have H1 := Aside0.mk h1
  have HT := Aside0.mk hT
  have HL0 := Aside0.mk (And.intro hl0 hl1)
  obtain ⟨W3, hW3⟩ : ∃ W3, (w4of w t (.slice A0 l0.length c0) (.slice A1 l1.length c1) fl a b) = W3 := ⟨_, rfl⟩
  rw [hW3] at hl3 hba hkn
  unfold w4of at hW3
  have HW3 := Aside0.mk hW3
  have HL := Aside0.mk hl3
  have HKN := Aside0.mk hkn
  have ha := below_alloc (Below.refl W3.heap.size W3) (.cells #[.int .i64 1, .int .i64 a, .int .i64 0, .int .i64 b] 29)
  have HBA := Aside0.mk ha
  clear hba hkn h0 h1 he hl3 hT hl0 hl1 ha hW3
  have hu22 := Tryd.underlying22
  have hu29 := Tryd.underlying29
  have hu24 := Tryd.underlying24
  have hu38 := Tryd.underlying38
  have hu26 := Tryd.underlying26
  have hz0 := HL.out.q2.c0
  have hz1 := HL.out.q2.c1
  have hz2 := HL.out.q2.c2
  have hz3 := HL.out.q2.c3
  have hy0 : W3.cell? ⟨w.heap.size + 1 + 1, 0, none⟩ = some (.int .i64 1) := (blk_cell HL.out.q4 0).trans rfl
  have hy1 : W3.cell? ⟨w.heap.size + 1 + 1, 1, none⟩ = some (.int .i64 a) := (blk_cell HL.out.q4 1).trans rfl
  have hy2 : W3.cell? ⟨w.heap.size + 1 + 1 + 1, 0, none⟩ = some (.int .i64 0) := (blk_cell HL.out.q5 0).trans rfl
  have hy3 : W3.cell? ⟨w.heap.size + 1 + 1 + 1, 1, none⟩ = some (.int .i64 b) := (blk_cell HL.out.q5 1).trans rfl
  obtain ⟨ad, ea, hx0, hx1, hx2⟩ := at_T38 H0.out (b : Int) (by omega) (by omega)
  subst ea
  rw [Int.toNat_natCast] at hx0 hx1 hx2
  obtain ⟨⟨sa, s1, s2⟩, hs⟩ : ∃ s, rd_T38 l0 (b : Int) = s := ⟨_, rfl⟩
  rw [hs] at hx0 hx1 hx2
  rw [hs] at hc2
  dsimp only at *
  have HX := Aside0.mk (And.intro hx0 (And.intro hx1 hx2))
  have HBI := Aside0.mk hb
  clear hx0 hx1 hx2 hs
  have d1 : decide (c < 1) = false := decide_eq_false hc
  clear hc
  have d2 : decide (s1 < c) = true := decide_eq_true hc2
  clear hc2
  go_enter Tryd.func30, Tryd.ntmps30
  go_upto_region 2 with (fail)
  rw [HW3.out]
  clear HW3
  go_upto_region 5 with (go_at_call 54; go_must (refine HKN.out.mono ?_; rintro e_ W4 ⟨rfl, hB4⟩; have HF := Aside0.mk (HL.out.below (below_step HBA.out hB4)); clear hB4 HL HKN HBA hz0 hz1 hz2 hz3 hy0 hy1 hy2 hy3))
  have hz1 := HF.out.1.c1
  have hx0 := (HF.out.2.2.2.1.cell (World.block_lt_of_cell? w _ HX.out.1)).trans HX.out.1
  have hx1 := (HF.out.2.2.2.1.cell (World.block_lt_of_cell? w _ HX.out.2.1)).trans HX.out.2.1
  have hx2 := (HF.out.2.2.2.1.cell (World.block_lt_of_cell? w _ HX.out.2.2)).trans HX.out.2.2
  go_upto_region 6 with (fail)
  obtain ⟨W5, hW5⟩ : ∃ W5, W5 = W4.alloc (.cells #[.int .i64 sa, .int .i64 s1, .int .i64 s2] 38) := ⟨_, rfl⟩
  rw [← hW5]
  have hb5 : Below W4.heap.size W4 W5 := by rw [hW5]; exact below_alloc (Below.refl _ _) _
  have hs5 : W5.heap.size = W4.heap.size + 1 := by rw [hW5]; simp
  have hr14 : W5.heap[W4.heap.size]? = some (.cells #[.int .i64 sa, .int .i64 s1, .int .i64 s2] 38 (0, 0)) := by rw [hW5]; exact heap_alloc_new W4 _
  have HM := Aside0.mk (show bookAt W5 w.heap.size t _ _ fl ∧ bookAt W5 (w.heap.size + 1) 0 (.slice none 0 0) (.slice none 0 0) false ∧ W5.heap[w.heap.size + 1 + 1]? = some (.cells #[.int .i64 1, .int .i64 a] 29 (0, 0)) ∧ Below w.heap.size w W5 ∧ w.heap.size + 4 ≤ W4.heap.size ∧ W5.heap.size = W4.heap.size + 1 ∧ W5.heap[W4.heap.size]? = some (.cells #[.int .i64 sa, .int .i64 s1, .int .i64 s2] 38 (0, 0)) from
    ⟨HF.out.1.below hb5 HF.out.1.lt, HF.out.2.1.below hb5 HF.out.2.1.lt, (hb5.block _ (by have := HF.out.2.2.2.2; omega)).trans HF.out.2.2.1, below_step HF.out.2.2.2.1 hb5, HF.out.2.2.2.2, hs5, hr14⟩)
  have hm1 : W5.cell? ⟨W4.heap.size, 1, none⟩ = some (.int .i64 s1) := (blk_cell hr14 1).trans rfl
  clear hW5 hb5 hs5 hr14 HF hz1 hx0 hx1 hx2
  have hc0 : W5.cell? ⟨w.heap.size + 1, 0, none⟩ = some (.int .i64 0) := HM.out.2.1.c0
  have hc1 : W5.cell? ⟨w.heap.size + 1, 1, none⟩ = some (.slice none 0 0) := HM.out.2.1.c1
  have hc2 : W5.cell? ⟨w.heap.size + 1, 2, none⟩ = some (.slice none 0 0) := HM.out.2.1.c2
  have hc3 : W5.cell? ⟨w.heap.size + 1, 3, none⟩ = some (.bool false) := HM.out.2.1.c3
  have hf0 : W5.frozen? ⟨w.heap.size + 1, 0, none⟩ = false := frozen_of_row _ _ _ _ _ HM.out.2.1
  have hf1 : W5.frozen? ⟨w.heap.size + 1, 1, none⟩ = false := frozen_of_row _ _ _ _ _ HM.out.2.1
  have hf2 : W5.frozen? ⟨w.heap.size + 1, 2, none⟩ = false := frozen_of_row _ _ _ _ _ HM.out.2.1
  have hf3 : W5.frozen? ⟨w.heap.size + 1, 3, none⟩ = false := frozen_of_row _ _ _ _ _ HM.out.2.1
  go_wp2_with fail
  refine bodyPost_ret (results_ctt rfl _ _ (w.heap.size + 1) 24 #[.int .i64 0, .slice none 0 0, .slice none 0 0, .bool false] (0, 0) _ rfl (by refine blk_put (cs := #[.int .i64 0, .slice none 0 0, .slice none 0 0, .bool false]) ?_ 3 _ rfl; refine blk_put (cs := #[.int .i64 0, .slice none 0 0, .slice none 0 0, .bool false]) ?_ 2 _ rfl; refine blk_put (cs := #[.int .i64 0, .slice none 0 0, .slice none 0 0, .bool false]) ?_ 1 _ rfl; refine blk_put (cs := #[.int .i64 0, .slice none 0 0, .slice none 0 0, .bool false]) ?_ 0 _ rfl; exact HM.out.2.1) Tryd.underlying24 rfl (by kernel_rfl)) rfl ?_
  exact ⟨rfl, (((HM.out.2.2.2.1.setCell (by simp) _).setCell (by simp) _).setCell (by simp) _).setCell (by simp) _⟩

set_option maxHeartbeats 4000000 in
set_option maxRecDepth 100000 in
theorem blame_enderr (t : Int) (fl : Bool) (A0 : Option Addr) (c0 : Nat) (l0 : List S38) (A1 : Option Addr) (c1 : Nat) (l1 : List S38) (a : Int) (b : Nat) (c : Int) (w : World)
    (h0 : Kd.C k38 w A0 l0.length l0) (h1 : Kd.C k38 w A1 l1.length l1) (hl0 : l0.length ≤ 6000000000000) (hl1 : l1.length ≤ 6000000000000) (hT : Tab w) (he : knownP t l0 l1 fl [⟨1, a⟩, ⟨0, (b : Int)⟩] = 0) (hb : b < l0.length) (hc : ¬ c < 1) (hc2 : ¬ (rd_T38 l0 (b : Int)).f1 < c) (r1 : Int) (r2 r3 : List S38) (r4 : Bool) (r5 : Int) (hend : endP t l0 l1 fl 1 a (fun s => ⟨2, s.f1, s.f2⟩) (fun _ => false) = (r1, r2, r3, r4, r5)) (hr5 : r5 ≠ 0) :
    Calls Tryd.prog 30 #[.agg #[.int .i64 t, .slice A0 l0.length c0, .slice A1 l1.length c1, .bool fl], .int .i64 a, .int .i64 b, .int .i64 c] w fun e_ w' => e_ = .returned (.tuple #[.agg #[.int .i64 0, .slice none 0 0, .slice none 0 0, .bool false], .bool false, .int .i64 r5]) ∧ Below w.heap.size w w' := by
  have hl3 := lays4_of w t (.slice A0 l0.length c0) (.slice A1 l1.length c1) fl a b
  have hba : Below w.heap.size w ((w4of w t (.slice A0 l0.length c0) (.slice A1 l1.length c1) fl a b).alloc (.cells #[.int .i64 1, .int .i64 a, .int .i64 0, .int .i64 b] 29)) := below_alloc hl3.q0 _
  have hkn := known_any t fl A0 c0 l0 A1 c1 l1 (some ⟨(w4of w t (.slice A0 l0.length c0) (.slice A1 l1.length c1) fl a b).heap.size, 0, none⟩) 2 [⟨1, a⟩, ⟨0, b⟩] ((w4of w t (.slice A0 l0.length c0) (.slice A1 l1.length c1) fl a b).alloc (.cells #[.int .i64 1, .int .i64 a, .int .i64 0, .int .i64 b] 29)) (Kd.C_below h0 hba) (Kd.C_below h1 hba) (C_two (w4of w t (.slice A0 l0.length c0) (.slice A1 l1.length c1) fl a b) 1 a 0 b) (by simp) hl0 hl1 (hT.below hba)
  rw [he] at hkn
  have H0 := Aside0.mk h0
  have H1 := Aside0.mk h1
  have HT := Aside0.mk hT
  have HL0 := Aside0.mk (And.intro hl0 hl1)
  obtain ⟨W3, hW3⟩ : ∃ W3, (w4of w t (.slice A0 l0.length c0) (.slice A1 l1.length c1) fl a b) = W3 := ⟨_, rfl⟩
  rw [hW3] at hl3 hba hkn
  unfold w4of at hW3
  have HW3 := Aside0.mk hW3
  have HL := Aside0.mk hl3
  have HKN := Aside0.mk hkn
  have ha := below_alloc (Below.refl W3.heap.size W3) (.cells #[.int .i64 1, .int .i64 a, .int .i64 0, .int .i64 b] 29)
  have HBA := Aside0.mk ha
  clear hba hkn h0 h1 he hl3 hT hl0 hl1 ha hW3
  have hu22 := Tryd.underlying22
  have hu29 := Tryd.underlying29
  have hu24 := Tryd.underlying24
  have hu38 := Tryd.underlying38
  have hu26 := Tryd.underlying26
  have hz0 := HL.out.q2.c0
  have hz1 := HL.out.q2.c1
  have hz2 := HL.out.q2.c2
  have hz3 := HL.out.q2.c3
  have hy0 : W3.cell? ⟨w.heap.size + 1 + 1, 0, none⟩ = some (.int .i64 1) := (blk_cell HL.out.q4 0).trans rfl
  have hy1 : W3.cell? ⟨w.heap.size + 1 + 1, 1, none⟩ = some (.int .i64 a) := (blk_cell HL.out.q4 1).trans rfl
  have hy2 : W3.cell? ⟨w.heap.size + 1 + 1 + 1, 0, none⟩ = some (.int .i64 0) := (blk_cell HL.out.q5 0).trans rfl
  have hy3 : W3.cell? ⟨w.heap.size + 1 + 1 + 1, 1, none⟩ = some (.int .i64 b) := (blk_cell HL.out.q5 1).trans rfl
  obtain ⟨ad, ea, hx0, hx1, hx2⟩ := at_T38 H0.out (b : Int) (by omega) (by omega)
  subst ea
  rw [Int.toNat_natCast] at hx0 hx1 hx2
  obtain ⟨⟨sa, s1, s2⟩, hs⟩ : ∃ s, rd_T38 l0 (b : Int) = s := ⟨_, rfl⟩
  rw [hs] at hx0 hx1 hx2
  rw [hs] at hc2
  dsimp only at *
  have HX := Aside0.mk (And.intro hx0 (And.intro hx1 hx2))
  have HBI := Aside0.mk hb
  clear hx0 hx1 hx2 hs
  have d1 : decide (c < 1) = false := decide_eq_false hc
  clear hc
  have d2 : decide (s1 < c) = false := decide_eq_false hc2
  clear hc2
  go_enter Tryd.func30, Tryd.ntmps30
  go_upto_region 2 with (fail)
  rw [HW3.out]
  clear HW3
  go_upto_region 5 with (go_at_call 54; go_must (refine HKN.out.mono ?_; rintro e_ W4 ⟨rfl, hB4⟩; have HF := Aside0.mk (HL.out.below (below_step HBA.out hB4)); clear hB4 HL HKN HBA hz0 hz1 hz2 hz3 hy0 hy1 hy2 hy3))
  have hz1 := HF.out.1.c1
  have hx0 := (HF.out.2.2.2.1.cell (World.block_lt_of_cell? w _ HX.out.1)).trans HX.out.1
  have hx1 := (HF.out.2.2.2.1.cell (World.block_lt_of_cell? w _ HX.out.2.1)).trans HX.out.2.1
  have hx2 := (HF.out.2.2.2.1.cell (World.block_lt_of_cell? w _ HX.out.2.2)).trans HX.out.2.2
  go_upto_region 6 with (fail)
  obtain ⟨W5, hW5⟩ : ∃ W5, W5 = W4.alloc (.cells #[.int .i64 sa, .int .i64 s1, .int .i64 s2] 38) := ⟨_, rfl⟩
  rw [← hW5]
  have hb5 : Below W4.heap.size W4 W5 := by rw [hW5]; exact below_alloc (Below.refl _ _) _
  have hs5 : W5.heap.size = W4.heap.size + 1 := by rw [hW5]; simp
  have hr14 : W5.heap[W4.heap.size]? = some (.cells #[.int .i64 sa, .int .i64 s1, .int .i64 s2] 38 (0, 0)) := by rw [hW5]; exact heap_alloc_new W4 _
  have HM := Aside0.mk (show bookAt W5 w.heap.size t _ _ fl ∧ bookAt W5 (w.heap.size + 1) 0 (.slice none 0 0) (.slice none 0 0) false ∧ W5.heap[w.heap.size + 1 + 1]? = some (.cells #[.int .i64 1, .int .i64 a] 29 (0, 0)) ∧ Below w.heap.size w W5 ∧ w.heap.size + 4 ≤ W4.heap.size ∧ W5.heap.size = W4.heap.size + 1 ∧ W5.heap[W4.heap.size]? = some (.cells #[.int .i64 sa, .int .i64 s1, .int .i64 s2] 38 (0, 0)) from
    ⟨HF.out.1.below hb5 HF.out.1.lt, HF.out.2.1.below hb5 HF.out.2.1.lt, (hb5.block _ (by have := HF.out.2.2.2.2; omega)).trans HF.out.2.2.1, below_step HF.out.2.2.2.1 hb5, HF.out.2.2.2.2, hs5, hr14⟩)
  have hm1 : W5.cell? ⟨W4.heap.size, 1, none⟩ = some (.int .i64 s1) := (blk_cell hr14 1).trans rfl
  clear hW5 hb5 hs5 hr14 HF hz1 hx0 hx1 hx2
  go_upto_region 8 with (fail)
  clear hm1
  have hz0 := HM.out.1.c0
  have hz1 := HM.out.1.c1
  have hz2 := HM.out.1.c2
  have hz3 := HM.out.1.c3
  have hy0 : W5.cell? ⟨w.heap.size + 1 + 1, 0, none⟩ = some (.int .i64 1) := (blk_cell HM.out.2.2.1 0).trans rfl
  have hy1 : W5.cell? ⟨w.heap.size + 1 + 1, 1, none⟩ = some (.int .i64 a) := (blk_cell HM.out.2.2.1 1).trans rfl
  have hen := ended_any 59 #[] (enters_of Tryd.func59 (by kernel_rfl) rfl) (fun s => ⟨2, s.f1, s.f2⟩) (fun _ => false) t fl (some ad) c0 l0 A1 c1 l1 1 a r1 r2 r3 r4 r5 W5 (Kd.C_below H0.out HM.out.2.2.2.1) (Kd.C_below H1.out HM.out.2.2.2.1) HL0.out.1 HL0.out.2 (HT.out.below HM.out.2.2.2.1)
    (fun W gb gs off u0 u1 s g1 g2 g3 g4 g5 g6 g7 => do_hold W gb gs off t u0 u1 false s g3 g4 g5) hend
  have HEN := Aside0.mk hen
  clear hen hend
  go_upto_region 9 with (go_at_call 45; go_must (refine HEN.out.mono ?_; rintro e_ W6 ⟨v1, v2, rfl, hr1, hr2, hB6⟩; have HR1 := Aside0.mk (Kd.R_mono (Kd.R_bound hr1) (fun k hk => (⟨hk.1, hk.2.1⟩ : _ ∧ W5.heap.size ≤ k))); have HR2 := Aside0.mk (Kd.R_mono (Kd.R_bound hr2) (fun k hk => (⟨hk.1, hk.2.1⟩ : _ ∧ W5.heap.size ≤ k))); have HG := Aside0.mk (show bookAt W6 w.heap.size t _ _ fl ∧ bookAt W6 (w.heap.size + 1) 0 (.slice none 0 0) (.slice none 0 0) false ∧ Below w.heap.size w W6 ∧ W6.heap[W4.heap.size]? = some (.cells #[.int .i64 sa, .int .i64 s1, .int .i64 s2] 38 (0, 0)) from ⟨HM.out.1.below hB6 HM.out.1.lt, HM.out.2.1.below hB6 HM.out.2.1.lt, below_step HM.out.2.2.2.1 hB6, (hB6.block _ (by have := HM.out.2.2.2.2.2.1; omega)).trans HM.out.2.2.2.2.2.2⟩); clear hr1 hr2 hB6 HEN hz0 hz1 hz2 hz3 hy0 hy1; obtain ⟨B1, d1_, e1⟩ := Kd.R_slice HR1.out; subst e1; obtain ⟨B2, d2_, e2⟩ := Kd.R_slice HR2.out; subst e2; have hz0 := HG.out.1.c0; have hz1 := HG.out.1.c1; have hz2 := HG.out.1.c2; have hz3 := HG.out.1.c3; have hq0 : W6.frozen? ⟨w.heap.size, 0, none⟩ = false := frozen_of_row _ _ _ _ _ HG.out.1; have hq1 : W6.frozen? ⟨w.heap.size, 1, none⟩ = false := frozen_of_row _ _ _ _ _ HG.out.1; have hq2 : W6.frozen? ⟨w.heap.size, 2, none⟩ = false := frozen_of_row _ _ _ _ _ HG.out.1; have hq3 : W6.frozen? ⟨w.heap.size, 3, none⟩ = false := frozen_of_row _ _ _ _ _ HG.out.1))
  clear hz0 hz1 hz2 hz3 hq0 hq1 hq2 hq3
  obtain ⟨W7, hW7⟩ : ∃ W7, W7 = (((W6.setCell ⟨w.heap.size, 0, none⟩ (.int .i64 r1)).setCell ⟨w.heap.size, 1, none⟩ (.slice B1 r2.length d1_)).setCell ⟨w.heap.size, 2, none⟩ (.slice B2 r3.length d2_)).setCell ⟨w.heap.size, 3, none⟩ (.bool r4) := ⟨_, rfl⟩
  rw [← hW7]
  have hfar : ∀ k, k ≠ w.heap.size → W7.heap[k]? = W6.heap[k]? := fun k hk => by rw [hW7, Below.heap_setCell _ _ _ _ hk, Below.heap_setCell _ _ _ _ hk, Below.heap_setCell _ _ _ _ hk, Below.heap_setCell _ _ _ _ hk]
  have HN := Aside0.mk (show bookAt W7 w.heap.size r1 (.slice B1 r2.length d1_) (.slice B2 r3.length d2_) r4 ∧ bookAt W7 (w.heap.size + 1) 0 (.slice none 0 0) (.slice none 0 0) false ∧ Below w.heap.size w W7 ∧ W7.heap[W4.heap.size]? = some (.cells #[.int .i64 sa, .int .i64 s1, .int .i64 s2] 38 (0, 0)) from
    ⟨by rw [hW7]; refine blk_put (cs := #[.int .i64 r1, .slice B1 r2.length d1_, .slice B2 r3.length d2_, .bool fl]) ?_ 3 _ rfl; refine blk_put (cs := #[.int .i64 r1, .slice B1 r2.length d1_, .slice A1 l1.length c1, .bool fl]) ?_ 2 _ rfl; refine blk_put (cs := #[.int .i64 r1, .slice (some ad) l0.length c0, .slice A1 l1.length c1, .bool fl]) ?_ 1 _ rfl; refine blk_put (cs := #[.int .i64 t, .slice (some ad) l0.length c0, .slice A1 l1.length c1, .bool fl]) ?_ 0 _ rfl; exact HG.out.1,
     (hfar _ (by omega)).trans HG.out.2.1, by rw [hW7]; exact (((HG.out.2.2.1.setCell (Nat.le_refl _) _).setCell (Nat.le_refl _) _).setCell (Nat.le_refl _) _).setCell (Nat.le_refl _) _, (hfar _ (by have := HM.out.2.2.2.2.1; omega)).trans HG.out.2.2.2⟩)
  have hsz : w.heap.size + 4 ≤ W5.heap.size := by have := HM.out.2.2.2.2; omega
  have HS := Aside0.mk hsz
  have HQ1 := Aside0.mk (show Kd.R k38 38 W7 W5.heap.size (fun k => some k ≠ (Value.slice B2 r3.length d2_).ownBlock ∧ W5.heap.size ≤ k) (.slice B1 r2.length d1_) r2 from by
    rw [hW7]
    exact Kd.R_far (p := ⟨w.heap.size, 3, none⟩) (Kd.R_far (p := ⟨w.heap.size, 2, none⟩) (Kd.R_far (p := ⟨w.heap.size, 1, none⟩) (Kd.R_far (p := ⟨w.heap.size, 0, none⟩) HR1.out (fun k hk => by have := hk.2; simp; omega) _) (fun k hk => by have := hk.2; simp; omega) _) (fun k hk => by have := hk.2; simp; omega) _) (fun k hk => by have := hk.2; simp; omega) _)
  have HQ2 := Aside0.mk (show Kd.R k38 38 W7 W5.heap.size (fun k => some k ≠ (Value.slice B1 r2.length d1_).ownBlock ∧ W5.heap.size ≤ k) (.slice B2 r3.length d2_) r3 from by
    rw [hW7]
    exact Kd.R_far (p := ⟨w.heap.size, 3, none⟩) (Kd.R_far (p := ⟨w.heap.size, 2, none⟩) (Kd.R_far (p := ⟨w.heap.size, 1, none⟩) (Kd.R_far (p := ⟨w.heap.size, 0, none⟩) HR2.out (fun k hk => by have := hk.2; simp; omega) _) (fun k hk => by have := hk.2; simp; omega) _) (fun k hk => by have := hk.2; simp; omega) _) (fun k hk => by have := hk.2; simp; omega) _)
  clear hW7 hfar HG HR1 HR2 hsz HM
  have hr5b : (r5 != 0) = true := bne_iff_ne.2 hr5
  clear hr5
  have hc0 : W7.cell? ⟨w.heap.size + 1, 0, none⟩ = some (.int .i64 0) := HN.out.2.1.c0
  have hc1 : W7.cell? ⟨w.heap.size + 1, 1, none⟩ = some (.slice none 0 0) := HN.out.2.1.c1
  have hc2 : W7.cell? ⟨w.heap.size + 1, 2, none⟩ = some (.slice none 0 0) := HN.out.2.1.c2
  have hc3 : W7.cell? ⟨w.heap.size + 1, 3, none⟩ = some (.bool false) := HN.out.2.1.c3
  have hf0 : W7.frozen? ⟨w.heap.size + 1, 0, none⟩ = false := frozen_of_row _ _ _ _ _ HN.out.2.1
  have hf1 : W7.frozen? ⟨w.heap.size + 1, 1, none⟩ = false := frozen_of_row _ _ _ _ _ HN.out.2.1
  have hf2 : W7.frozen? ⟨w.heap.size + 1, 2, none⟩ = false := frozen_of_row _ _ _ _ _ HN.out.2.1
  have hf3 : W7.frozen? ⟨w.heap.size + 1, 3, none⟩ = false := frozen_of_row _ _ _ _ _ HN.out.2.1
  go_wp2_with fail
  refine bodyPost_ret (results_ctt rfl _ _ (w.heap.size + 1) 24 #[.int .i64 0, .slice none 0 0, .slice none 0 0, .bool false] (0, 0) _ rfl (by refine blk_put (cs := #[.int .i64 0, .slice none 0 0, .slice none 0 0, .bool false]) ?_ 3 _ rfl; refine blk_put (cs := #[.int .i64 0, .slice none 0 0, .slice none 0 0, .bool false]) ?_ 2 _ rfl; refine blk_put (cs := #[.int .i64 0, .slice none 0 0, .slice none 0 0, .bool false]) ?_ 1 _ rfl; refine blk_put (cs := #[.int .i64 0, .slice none 0 0, .slice none 0 0, .bool false]) ?_ 0 _ rfl; exact HN.out.2.1) Tryd.underlying24 rfl (by kernel_rfl)) rfl ?_
  exact ⟨rfl, (((HN.out.2.2.1.setCell (by simp) _).setCell (by simp) _).setCell (by simp) _).setCell (by simp) _⟩

set_option maxHeartbeats 4000000 in
set_option maxRecDepth 100000 in
theorem blame_other (t : Int) (fl : Bool) (A0 : Option Addr) (c0 : Nat) (l0 : List S38) (A1 : Option Addr) (c1 : Nat) (l1 : List S38) (a : Int) (b : Nat) (c : Int) (w : World)
    (h0 : Kd.C k38 w A0 l0.length l0) (h1 : Kd.C k38 w A1 l1.length l1) (hl0 : l0.length ≤ 6000000000000) (hl1 : l1.length ≤ 6000000000000) (hT : Tab w) (he : knownP t l0 l1 fl [⟨1, a⟩, ⟨0, (b : Int)⟩] = 0) (hb : b < l0.length) (hc : ¬ c < 1) (hc2 : ¬ (rd_T38 l0 (b : Int)).f1 < c) (r1 : Int) (r2 r3 : List S38) (r4 : Bool) (r5 : Int) (hend : endP t l0 l1 fl 1 a (fun s => ⟨2, s.f1, s.f2⟩) (fun _ => false) = (r1, r2, r3, r4, r5)) (hr5 : r5 = 0) (hst : (rd_T38 l0 (b : Int)).f0 ≠ 3) :
    Calls Tryd.prog 30 #[.agg #[.int .i64 t, .slice A0 l0.length c0, .slice A1 l1.length c1, .bool fl], .int .i64 a, .int .i64 b, .int .i64 c] w fun e_ w' => ∃ v1 v2 : Value, e_ = .returned (.tuple #[.agg #[.int .i64 r1, v1, v2, .bool r4], .bool false, .int .i64 0]) ∧ Kd.R k38 38 w' w.heap.size (fun k => some k ≠ v2.ownBlock) v1 r2 ∧ Kd.R k38 38 w' w.heap.size (fun k => some k ≠ v1.ownBlock) v2 r3 ∧ Below w.heap.size w w' := by
  have hl3 := lays4_of w t (.slice A0 l0.length c0) (.slice A1 l1.length c1) fl a b
  have hba : Below w.heap.size w ((w4of w t (.slice A0 l0.length c0) (.slice A1 l1.length c1) fl a b).alloc (.cells #[.int .i64 1, .int .i64 a, .int .i64 0, .int .i64 b] 29)) := below_alloc hl3.q0 _
  have hkn := known_any t fl A0 c0 l0 A1 c1 l1 (some ⟨(w4of w t (.slice A0 l0.length c0) (.slice A1 l1.length c1) fl a b).heap.size, 0, none⟩) 2 [⟨1, a⟩, ⟨0, b⟩] ((w4of w t (.slice A0 l0.length c0) (.slice A1 l1.length c1) fl a b).alloc (.cells #[.int .i64 1, .int .i64 a, .int .i64 0, .int .i64 b] 29)) (Kd.C_below h0 hba) (Kd.C_below h1 hba) (C_two (w4of w t (.slice A0 l0.length c0) (.slice A1 l1.length c1) fl a b) 1 a 0 b) (by simp) hl0 hl1 (hT.below hba)
  rw [he] at hkn
  have H0 := Aside0.mk h0
  have H1 := Aside0.mk h1
  have HT := Aside0.mk hT
  have HL0 := Aside0.mk (And.intro hl0 hl1)
  obtain ⟨W3, hW3⟩ : ∃ W3, (w4of w t (.slice A0 l0.length c0) (.slice A1 l1.length c1) fl a b) = W3 := ⟨_, rfl⟩
  rw [hW3] at hl3 hba hkn
  unfold w4of at hW3
  have HW3 := Aside0.mk hW3
  have HL := Aside0.mk hl3
  have HKN := Aside0.mk hkn
  have ha := below_alloc (Below.refl W3.heap.size W3) (.cells #[.int .i64 1, .int .i64 a, .int .i64 0, .int .i64 b] 29)
  have HBA := Aside0.mk ha
  clear hba hkn h0 h1 he hl3 hT hl0 hl1 ha hW3
  have hu22 := Tryd.underlying22
  have hu29 := Tryd.underlying29
  have hu24 := Tryd.underlying24
  have hu38 := Tryd.underlying38
  have hu26 := Tryd.underlying26
  have hz0 := HL.out.q2.c0
  have hz1 := HL.out.q2.c1
  have hz2 := HL.out.q2.c2
  have hz3 := HL.out.q2.c3
  have hy0 : W3.cell? ⟨w.heap.size + 1 + 1, 0, none⟩ = some (.int .i64 1) := (blk_cell HL.out.q4 0).trans rfl
  have hy1 : W3.cell? ⟨w.heap.size + 1 + 1, 1, none⟩ = some (.int .i64 a) := (blk_cell HL.out.q4 1).trans rfl
  have hy2 : W3.cell? ⟨w.heap.size + 1 + 1 + 1, 0, none⟩ = some (.int .i64 0) := (blk_cell HL.out.q5 0).trans rfl
  have hy3 : W3.cell? ⟨w.heap.size + 1 + 1 + 1, 1, none⟩ = some (.int .i64 b) := (blk_cell HL.out.q5 1).trans rfl
  obtain ⟨ad, ea, hx0, hx1, hx2⟩ := at_T38 H0.out (b : Int) (by omega) (by omega)
  subst ea
  rw [Int.toNat_natCast] at hx0 hx1 hx2
  obtain ⟨⟨sa, s1, s2⟩, hs⟩ : ∃ s, rd_T38 l0 (b : Int) = s := ⟨_, rfl⟩
  rw [hs] at hx0 hx1 hx2
  rw [hs] at hc2
  rw [hs] at hst
  dsimp only at *
  have HX := Aside0.mk (And.intro hx0 (And.intro hx1 hx2))
  have HBI := Aside0.mk hb
  clear hx0 hx1 hx2 hs
  have d1 : decide (c < 1) = false := decide_eq_false hc
  clear hc
  have d2 : decide (s1 < c) = false := decide_eq_false hc2
  clear hc2
  go_enter Tryd.func30, Tryd.ntmps30
  go_upto_region 2 with (fail)
  rw [HW3.out]
  clear HW3
  go_upto_region 5 with (go_at_call 54; go_must (refine HKN.out.mono ?_; rintro e_ W4 ⟨rfl, hB4⟩; have HF := Aside0.mk (HL.out.below (below_step HBA.out hB4)); clear hB4 HL HKN HBA hz0 hz1 hz2 hz3 hy0 hy1 hy2 hy3))
  have hz1 := HF.out.1.c1
  have hx0 := (HF.out.2.2.2.1.cell (World.block_lt_of_cell? w _ HX.out.1)).trans HX.out.1
  have hx1 := (HF.out.2.2.2.1.cell (World.block_lt_of_cell? w _ HX.out.2.1)).trans HX.out.2.1
  have hx2 := (HF.out.2.2.2.1.cell (World.block_lt_of_cell? w _ HX.out.2.2)).trans HX.out.2.2
  go_upto_region 6 with (fail)
  obtain ⟨W5, hW5⟩ : ∃ W5, W5 = W4.alloc (.cells #[.int .i64 sa, .int .i64 s1, .int .i64 s2] 38) := ⟨_, rfl⟩
  rw [← hW5]
  have hb5 : Below W4.heap.size W4 W5 := by rw [hW5]; exact below_alloc (Below.refl _ _) _
  have hs5 : W5.heap.size = W4.heap.size + 1 := by rw [hW5]; simp
  have hr14 : W5.heap[W4.heap.size]? = some (.cells #[.int .i64 sa, .int .i64 s1, .int .i64 s2] 38 (0, 0)) := by rw [hW5]; exact heap_alloc_new W4 _
  have HM := Aside0.mk (show bookAt W5 w.heap.size t _ _ fl ∧ bookAt W5 (w.heap.size + 1) 0 (.slice none 0 0) (.slice none 0 0) false ∧ W5.heap[w.heap.size + 1 + 1]? = some (.cells #[.int .i64 1, .int .i64 a] 29 (0, 0)) ∧ Below w.heap.size w W5 ∧ w.heap.size + 4 ≤ W4.heap.size ∧ W5.heap.size = W4.heap.size + 1 ∧ W5.heap[W4.heap.size]? = some (.cells #[.int .i64 sa, .int .i64 s1, .int .i64 s2] 38 (0, 0)) from
    ⟨HF.out.1.below hb5 HF.out.1.lt, HF.out.2.1.below hb5 HF.out.2.1.lt, (hb5.block _ (by have := HF.out.2.2.2.2; omega)).trans HF.out.2.2.1, below_step HF.out.2.2.2.1 hb5, HF.out.2.2.2.2, hs5, hr14⟩)
  have hm1 : W5.cell? ⟨W4.heap.size, 1, none⟩ = some (.int .i64 s1) := (blk_cell hr14 1).trans rfl
  clear hW5 hb5 hs5 hr14 HF hz1 hx0 hx1 hx2
  go_upto_region 8 with (fail)
  clear hm1
  have hz0 := HM.out.1.c0
  have hz1 := HM.out.1.c1
  have hz2 := HM.out.1.c2
  have hz3 := HM.out.1.c3
  have hy0 : W5.cell? ⟨w.heap.size + 1 + 1, 0, none⟩ = some (.int .i64 1) := (blk_cell HM.out.2.2.1 0).trans rfl
  have hy1 : W5.cell? ⟨w.heap.size + 1 + 1, 1, none⟩ = some (.int .i64 a) := (blk_cell HM.out.2.2.1 1).trans rfl
  have hen := ended_any 59 #[] (enters_of Tryd.func59 (by kernel_rfl) rfl) (fun s => ⟨2, s.f1, s.f2⟩) (fun _ => false) t fl (some ad) c0 l0 A1 c1 l1 1 a r1 r2 r3 r4 r5 W5 (Kd.C_below H0.out HM.out.2.2.2.1) (Kd.C_below H1.out HM.out.2.2.2.1) HL0.out.1 HL0.out.2 (HT.out.below HM.out.2.2.2.1)
    (fun W gb gs off u0 u1 s g1 g2 g3 g4 g5 g6 g7 => do_hold W gb gs off t u0 u1 false s g3 g4 g5) hend
  have HEN := Aside0.mk hen
  clear hen hend
  go_upto_region 9 with (go_at_call 45; go_must (refine HEN.out.mono ?_; rintro e_ W6 ⟨v1, v2, rfl, hr1, hr2, hB6⟩; have HR1 := Aside0.mk (Kd.R_mono (Kd.R_bound hr1) (fun k hk => (⟨hk.1, hk.2.1⟩ : _ ∧ W5.heap.size ≤ k))); have HR2 := Aside0.mk (Kd.R_mono (Kd.R_bound hr2) (fun k hk => (⟨hk.1, hk.2.1⟩ : _ ∧ W5.heap.size ≤ k))); have HG := Aside0.mk (show bookAt W6 w.heap.size t _ _ fl ∧ bookAt W6 (w.heap.size + 1) 0 (.slice none 0 0) (.slice none 0 0) false ∧ Below w.heap.size w W6 ∧ W6.heap[W4.heap.size]? = some (.cells #[.int .i64 sa, .int .i64 s1, .int .i64 s2] 38 (0, 0)) from ⟨HM.out.1.below hB6 HM.out.1.lt, HM.out.2.1.below hB6 HM.out.2.1.lt, below_step HM.out.2.2.2.1 hB6, (hB6.block _ (by have := HM.out.2.2.2.2.2.1; omega)).trans HM.out.2.2.2.2.2.2⟩); clear hr1 hr2 hB6 HEN hz0 hz1 hz2 hz3 hy0 hy1; obtain ⟨B1, d1_, e1⟩ := Kd.R_slice HR1.out; subst e1; obtain ⟨B2, d2_, e2⟩ := Kd.R_slice HR2.out; subst e2; have hz0 := HG.out.1.c0; have hz1 := HG.out.1.c1; have hz2 := HG.out.1.c2; have hz3 := HG.out.1.c3; have hq0 : W6.frozen? ⟨w.heap.size, 0, none⟩ = false := frozen_of_row _ _ _ _ _ HG.out.1; have hq1 : W6.frozen? ⟨w.heap.size, 1, none⟩ = false := frozen_of_row _ _ _ _ _ HG.out.1; have hq2 : W6.frozen? ⟨w.heap.size, 2, none⟩ = false := frozen_of_row _ _ _ _ _ HG.out.1; have hq3 : W6.frozen? ⟨w.heap.size, 3, none⟩ = false := frozen_of_row _ _ _ _ _ HG.out.1))
  clear hz0 hz1 hz2 hz3 hq0 hq1 hq2 hq3
  obtain ⟨W7, hW7⟩ : ∃ W7, W7 = (((W6.setCell ⟨w.heap.size, 0, none⟩ (.int .i64 r1)).setCell ⟨w.heap.size, 1, none⟩ (.slice B1 r2.length d1_)).setCell ⟨w.heap.size, 2, none⟩ (.slice B2 r3.length d2_)).setCell ⟨w.heap.size, 3, none⟩ (.bool r4) := ⟨_, rfl⟩
  rw [← hW7]
  have hfar : ∀ k, k ≠ w.heap.size → W7.heap[k]? = W6.heap[k]? := fun k hk => by rw [hW7, Below.heap_setCell _ _ _ _ hk, Below.heap_setCell _ _ _ _ hk, Below.heap_setCell _ _ _ _ hk, Below.heap_setCell _ _ _ _ hk]
  have HN := Aside0.mk (show bookAt W7 w.heap.size r1 (.slice B1 r2.length d1_) (.slice B2 r3.length d2_) r4 ∧ bookAt W7 (w.heap.size + 1) 0 (.slice none 0 0) (.slice none 0 0) false ∧ Below w.heap.size w W7 ∧ W7.heap[W4.heap.size]? = some (.cells #[.int .i64 sa, .int .i64 s1, .int .i64 s2] 38 (0, 0)) from
    ⟨by rw [hW7]; refine blk_put (cs := #[.int .i64 r1, .slice B1 r2.length d1_, .slice B2 r3.length d2_, .bool fl]) ?_ 3 _ rfl; refine blk_put (cs := #[.int .i64 r1, .slice B1 r2.length d1_, .slice A1 l1.length c1, .bool fl]) ?_ 2 _ rfl; refine blk_put (cs := #[.int .i64 r1, .slice (some ad) l0.length c0, .slice A1 l1.length c1, .bool fl]) ?_ 1 _ rfl; refine blk_put (cs := #[.int .i64 t, .slice (some ad) l0.length c0, .slice A1 l1.length c1, .bool fl]) ?_ 0 _ rfl; exact HG.out.1,
     (hfar _ (by omega)).trans HG.out.2.1, by rw [hW7]; exact (((HG.out.2.2.1.setCell (Nat.le_refl _) _).setCell (Nat.le_refl _) _).setCell (Nat.le_refl _) _).setCell (Nat.le_refl _) _, (hfar _ (by have := HM.out.2.2.2.2.1; omega)).trans HG.out.2.2.2⟩)
  have hsz : w.heap.size + 4 ≤ W5.heap.size := by have := HM.out.2.2.2.2; omega
  have HS := Aside0.mk hsz
  have HQ1 := Aside0.mk (show Kd.R k38 38 W7 W5.heap.size (fun k => some k ≠ (Value.slice B2 r3.length d2_).ownBlock ∧ W5.heap.size ≤ k) (.slice B1 r2.length d1_) r2 from by
    rw [hW7]
    exact Kd.R_far (p := ⟨w.heap.size, 3, none⟩) (Kd.R_far (p := ⟨w.heap.size, 2, none⟩) (Kd.R_far (p := ⟨w.heap.size, 1, none⟩) (Kd.R_far (p := ⟨w.heap.size, 0, none⟩) HR1.out (fun k hk => by have := hk.2; simp; omega) _) (fun k hk => by have := hk.2; simp; omega) _) (fun k hk => by have := hk.2; simp; omega) _) (fun k hk => by have := hk.2; simp; omega) _)
  have HQ2 := Aside0.mk (show Kd.R k38 38 W7 W5.heap.size (fun k => some k ≠ (Value.slice B1 r2.length d1_).ownBlock ∧ W5.heap.size ≤ k) (.slice B2 r3.length d2_) r3 from by
    rw [hW7]
    exact Kd.R_far (p := ⟨w.heap.size, 3, none⟩) (Kd.R_far (p := ⟨w.heap.size, 2, none⟩) (Kd.R_far (p := ⟨w.heap.size, 1, none⟩) (Kd.R_far (p := ⟨w.heap.size, 0, none⟩) HR2.out (fun k hk => by have := hk.2; simp; omega) _) (fun k hk => by have := hk.2; simp; omega) _) (fun k hk => by have := hk.2; simp; omega) _) (fun k hk => by have := hk.2; simp; omega) _)
  clear hW7 hfar HG HR1 HR2 hsz HM
  subst hr5
  have hm0 : W7.cell? ⟨W4.heap.size, 0, none⟩ = some (.int .i64 sa) := (blk_cell HN.out.2.2.2 0).trans rfl
  have hm1 : W7.cell? ⟨W4.heap.size, 1, none⟩ = some (.int .i64 s1) := (blk_cell HN.out.2.2.2 1).trans rfl
  have d3 : (sa == 3) = false := beq_eq_false_iff_ne.2 hst
  clear hst
  have hz0 := HN.out.1.c0
  have hz1 := HN.out.1.c1
  have hz2 := HN.out.1.c2
  have hz3 := HN.out.1.c3
  have hc0 : W7.cell? ⟨w.heap.size + 1, 0, none⟩ = some (.int .i64 0) := HN.out.2.1.c0
  have hc1 : W7.cell? ⟨w.heap.size + 1, 1, none⟩ = some (.slice none 0 0) := HN.out.2.1.c1
  have hc2 : W7.cell? ⟨w.heap.size + 1, 2, none⟩ = some (.slice none 0 0) := HN.out.2.1.c2
  have hc3 : W7.cell? ⟨w.heap.size + 1, 3, none⟩ = some (.bool false) := HN.out.2.1.c3
  have hf0 : W7.frozen? ⟨w.heap.size + 1, 0, none⟩ = false := frozen_of_row _ _ _ _ _ HN.out.2.1
  have hf1 : W7.frozen? ⟨w.heap.size + 1, 1, none⟩ = false := frozen_of_row _ _ _ _ _ HN.out.2.1
  have hf2 : W7.frozen? ⟨w.heap.size + 1, 2, none⟩ = false := frozen_of_row _ _ _ _ _ HN.out.2.1
  have hf3 : W7.frozen? ⟨w.heap.size + 1, 3, none⟩ = false := frozen_of_row _ _ _ _ _ HN.out.2.1
  go_wp2_with fail
  refine bodyPost_ret (results_ctt rfl _ _ (w.heap.size + 1) 24 #[.int .i64 r1, .slice B1 r2.length d1_, .slice B2 r3.length d2_, .bool r4] (0, 0) _ rfl (by refine blk_put (cs := #[.int .i64 r1, .slice B1 r2.length d1_, .slice B2 r3.length d2_, .bool false]) ?_ 3 _ rfl; refine blk_put (cs := #[.int .i64 r1, .slice B1 r2.length d1_, .slice none 0 0, .bool false]) ?_ 2 _ rfl; refine blk_put (cs := #[.int .i64 r1, .slice none 0 0, .slice none 0 0, .bool false]) ?_ 1 _ rfl; refine blk_put (cs := #[.int .i64 0, .slice none 0 0, .slice none 0 0, .bool false]) ?_ 0 _ rfl; exact HN.out.2.1) Tryd.underlying24 rfl (by kernel_rfl)) rfl ?_
  have hs := HS.out
  refine ⟨_, _, rfl, ?_, ?_, (((HN.out.2.2.1.setCell (by simp) _).setCell (by simp) _).setCell (by simp) _).setCell (by simp) _⟩
  · exact Kd.R_lower (Kd.R_mono (Kd.R_far (p := ⟨w.heap.size + 1, 3, none⟩) (Kd.R_far (p := ⟨w.heap.size + 1, 2, none⟩) (Kd.R_far (p := ⟨w.heap.size + 1, 1, none⟩) (Kd.R_far (p := ⟨w.heap.size + 1, 0, none⟩) HQ1.out (fun k hk => by have := hk.2; simp; omega) _) (fun k hk => by have := hk.2; simp; omega) _) (fun k hk => by have := hk.2; simp; omega) _) (fun k hk => by have := hk.2; simp; omega) _) (fun k hk => hk.1)) (by omega)
  · exact Kd.R_lower (Kd.R_mono (Kd.R_far (p := ⟨w.heap.size + 1, 3, none⟩) (Kd.R_far (p := ⟨w.heap.size + 1, 2, none⟩) (Kd.R_far (p := ⟨w.heap.size + 1, 1, none⟩) (Kd.R_far (p := ⟨w.heap.size + 1, 0, none⟩) HQ2.out (fun k hk => by have := hk.2; simp; omega) _) (fun k hk => by have := hk.2; simp; omega) _) (fun k hk => by have := hk.2; simp; omega) _) (fun k hk => by have := hk.2; simp; omega) _) (fun k hk => hk.1)) (by omega)

set_option maxHeartbeats 4000000 in
set_option maxRecDepth 100000 in
theorem blame_free3 (t : Int) (fl : Bool) (A0 : Option Addr) (c0 : Nat) (l0 : List S38) (A1 : Option Addr) (c1 : Nat) (l1 : List S38) (a : Int) (b : Nat) (c : Int) (w : World)
    (h0 : Kd.C k38 w A0 l0.length l0) (h1 : Kd.C k38 w A1 l1.length l1) (hl0 : l0.length ≤ 6000000000000) (hl1 : l1.length ≤ 6000000000000) (hT : Tab w) (he : knownP t l0 l1 fl [⟨1, a⟩, ⟨0, (b : Int)⟩] = 0) (hb : b < l0.length) (hc : ¬ c < 1) (hc2 : ¬ (rd_T38 l0 (b : Int)).f1 < c) (r1 : Int) (r2 r3 : List S38) (r4 : Bool) (r5 : Int) (hend : endP t l0 l1 fl 1 a (fun s => ⟨2, s.f1, s.f2⟩) (fun _ => false) = (r1, r2, r3, r4, r5)) (hr5 : r5 = 0) (hst : (rd_T38 l0 (b : Int)).f0 = 3) (hat : (rd_T38 l0 (b : Int)).f1 ≠ c) :
    Calls Tryd.prog 30 #[.agg #[.int .i64 t, .slice A0 l0.length c0, .slice A1 l1.length c1, .bool fl], .int .i64 a, .int .i64 b, .int .i64 c] w fun e_ w' => ∃ v1 v2 : Value, e_ = .returned (.tuple #[.agg #[.int .i64 r1, v1, v2, .bool r4], .bool false, .int .i64 0]) ∧ Kd.R k38 38 w' w.heap.size (fun k => some k ≠ v2.ownBlock) v1 r2 ∧ Kd.R k38 38 w' w.heap.size (fun k => some k ≠ v1.ownBlock) v2 r3 ∧ Below w.heap.size w w' := by
  have hl3 := lays4_of w t (.slice A0 l0.length c0) (.slice A1 l1.length c1) fl a b
  have hba : Below w.heap.size w ((w4of w t (.slice A0 l0.length c0) (.slice A1 l1.length c1) fl a b).alloc (.cells #[.int .i64 1, .int .i64 a, .int .i64 0, .int .i64 b] 29)) := below_alloc hl3.q0 _
  have hkn := known_any t fl A0 c0 l0 A1 c1 l1 (some ⟨(w4of w t (.slice A0 l0.length c0) (.slice A1 l1.length c1) fl a b).heap.size, 0, none⟩) 2 [⟨1, a⟩, ⟨0, b⟩] ((w4of w t (.slice A0 l0.length c0) (.slice A1 l1.length c1) fl a b).alloc (.cells #[.int .i64 1, .int .i64 a, .int .i64 0, .int .i64 b] 29)) (Kd.C_below h0 hba) (Kd.C_below h1 hba) (C_two (w4of w t (.slice A0 l0.length c0) (.slice A1 l1.length c1) fl a b) 1 a 0 b) (by simp) hl0 hl1 (hT.below hba)
  rw [he] at hkn
  have H0 := Aside0.mk h0
  have H1 := Aside0.mk h1
  have HT := Aside0.mk hT
  have HL0 := Aside0.mk (And.intro hl0 hl1)
  obtain ⟨W3, hW3⟩ : ∃ W3, (w4of w t (.slice A0 l0.length c0) (.slice A1 l1.length c1) fl a b) = W3 := ⟨_, rfl⟩
  rw [hW3] at hl3 hba hkn
  unfold w4of at hW3
  have HW3 := Aside0.mk hW3
  have HL := Aside0.mk hl3
  have HKN := Aside0.mk hkn
  have ha := below_alloc (Below.refl W3.heap.size W3) (.cells #[.int .i64 1, .int .i64 a, .int .i64 0, .int .i64 b] 29)
  have HBA := Aside0.mk ha
  clear hba hkn h0 h1 he hl3 hT hl0 hl1 ha hW3
  have hu22 := Tryd.underlying22
  have hu29 := Tryd.underlying29
  have hu24 := Tryd.underlying24
  have hu38 := Tryd.underlying38
  have hu26 := Tryd.underlying26
  have hz0 := HL.out.q2.c0
  have hz1 := HL.out.q2.c1
  have hz2 := HL.out.q2.c2
  have hz3 := HL.out.q2.c3
  have hy0 : W3.cell? ⟨w.heap.size + 1 + 1, 0, none⟩ = some (.int .i64 1) := (blk_cell HL.out.q4 0).trans rfl
  have hy1 : W3.cell? ⟨w.heap.size + 1 + 1, 1, none⟩ = some (.int .i64 a) := (blk_cell HL.out.q4 1).trans rfl
  have hy2 : W3.cell? ⟨w.heap.size + 1 + 1 + 1, 0, none⟩ = some (.int .i64 0) := (blk_cell HL.out.q5 0).trans rfl
  have hy3 : W3.cell? ⟨w.heap.size + 1 + 1 + 1, 1, none⟩ = some (.int .i64 b) := (blk_cell HL.out.q5 1).trans rfl
  obtain ⟨ad, ea, hx0, hx1, hx2⟩ := at_T38 H0.out (b : Int) (by omega) (by omega)
  subst ea
  rw [Int.toNat_natCast] at hx0 hx1 hx2
  obtain ⟨⟨sa, s1, s2⟩, hs⟩ : ∃ s, rd_T38 l0 (b : Int) = s := ⟨_, rfl⟩
  rw [hs] at hx0 hx1 hx2
  rw [hs] at hc2
  rw [hs] at hst
  rw [hs] at hat
  dsimp only at *
  subst hst
  have d4 : (s1 == c) = false := beq_eq_false_iff_ne.2 hat
  clear hat
  have HX := Aside0.mk (And.intro hx0 (And.intro hx1 hx2))
  have HBI := Aside0.mk hb
  clear hx0 hx1 hx2 hs
  have d1 : decide (c < 1) = false := decide_eq_false hc
  clear hc
  have d2 : decide (s1 < c) = false := decide_eq_false hc2
  clear hc2
  go_enter Tryd.func30, Tryd.ntmps30
  go_upto_region 2 with (fail)
  rw [HW3.out]
  clear HW3
  go_upto_region 5 with (go_at_call 54; go_must (refine HKN.out.mono ?_; rintro e_ W4 ⟨rfl, hB4⟩; have HF := Aside0.mk (HL.out.below (below_step HBA.out hB4)); clear hB4 HL HKN HBA hz0 hz1 hz2 hz3 hy0 hy1 hy2 hy3))
  have hz1 := HF.out.1.c1
  have hx0 := (HF.out.2.2.2.1.cell (World.block_lt_of_cell? w _ HX.out.1)).trans HX.out.1
  have hx1 := (HF.out.2.2.2.1.cell (World.block_lt_of_cell? w _ HX.out.2.1)).trans HX.out.2.1
  have hx2 := (HF.out.2.2.2.1.cell (World.block_lt_of_cell? w _ HX.out.2.2)).trans HX.out.2.2
  go_upto_region 6 with (fail)
  obtain ⟨W5, hW5⟩ : ∃ W5, W5 = W4.alloc (.cells #[.int .i64 3, .int .i64 s1, .int .i64 s2] 38) := ⟨_, rfl⟩
  rw [← hW5]
  have hb5 : Below W4.heap.size W4 W5 := by rw [hW5]; exact below_alloc (Below.refl _ _) _
  have hs5 : W5.heap.size = W4.heap.size + 1 := by rw [hW5]; simp
  have hr14 : W5.heap[W4.heap.size]? = some (.cells #[.int .i64 3, .int .i64 s1, .int .i64 s2] 38 (0, 0)) := by rw [hW5]; exact heap_alloc_new W4 _
  have HM := Aside0.mk (show bookAt W5 w.heap.size t _ _ fl ∧ bookAt W5 (w.heap.size + 1) 0 (.slice none 0 0) (.slice none 0 0) false ∧ W5.heap[w.heap.size + 1 + 1]? = some (.cells #[.int .i64 1, .int .i64 a] 29 (0, 0)) ∧ Below w.heap.size w W5 ∧ w.heap.size + 4 ≤ W4.heap.size ∧ W5.heap.size = W4.heap.size + 1 ∧ W5.heap[W4.heap.size]? = some (.cells #[.int .i64 3, .int .i64 s1, .int .i64 s2] 38 (0, 0)) from
    ⟨HF.out.1.below hb5 HF.out.1.lt, HF.out.2.1.below hb5 HF.out.2.1.lt, (hb5.block _ (by have := HF.out.2.2.2.2; omega)).trans HF.out.2.2.1, below_step HF.out.2.2.2.1 hb5, HF.out.2.2.2.2, hs5, hr14⟩)
  have hm1 : W5.cell? ⟨W4.heap.size, 1, none⟩ = some (.int .i64 s1) := (blk_cell hr14 1).trans rfl
  clear hW5 hb5 hs5 hr14 HF hz1 hx0 hx1 hx2
  go_upto_region 8 with (fail)
  clear hm1
  have hz0 := HM.out.1.c0
  have hz1 := HM.out.1.c1
  have hz2 := HM.out.1.c2
  have hz3 := HM.out.1.c3
  have hy0 : W5.cell? ⟨w.heap.size + 1 + 1, 0, none⟩ = some (.int .i64 1) := (blk_cell HM.out.2.2.1 0).trans rfl
  have hy1 : W5.cell? ⟨w.heap.size + 1 + 1, 1, none⟩ = some (.int .i64 a) := (blk_cell HM.out.2.2.1 1).trans rfl
  have hen := ended_any 59 #[] (enters_of Tryd.func59 (by kernel_rfl) rfl) (fun s => ⟨2, s.f1, s.f2⟩) (fun _ => false) t fl (some ad) c0 l0 A1 c1 l1 1 a r1 r2 r3 r4 r5 W5 (Kd.C_below H0.out HM.out.2.2.2.1) (Kd.C_below H1.out HM.out.2.2.2.1) HL0.out.1 HL0.out.2 (HT.out.below HM.out.2.2.2.1)
    (fun W gb gs off u0 u1 s g1 g2 g3 g4 g5 g6 g7 => do_hold W gb gs off t u0 u1 false s g3 g4 g5) hend
  have HEN := Aside0.mk hen
  clear hen hend
  go_upto_region 9 with (go_at_call 45; go_must (refine HEN.out.mono ?_; rintro e_ W6 ⟨v1, v2, rfl, hr1, hr2, hB6⟩; have HR1 := Aside0.mk (Kd.R_mono (Kd.R_bound hr1) (fun k hk => (⟨hk.1, hk.2.1⟩ : _ ∧ W5.heap.size ≤ k))); have HR2 := Aside0.mk (Kd.R_mono (Kd.R_bound hr2) (fun k hk => (⟨hk.1, hk.2.1⟩ : _ ∧ W5.heap.size ≤ k))); have HG := Aside0.mk (show bookAt W6 w.heap.size t _ _ fl ∧ bookAt W6 (w.heap.size + 1) 0 (.slice none 0 0) (.slice none 0 0) false ∧ Below w.heap.size w W6 ∧ W6.heap[W4.heap.size]? = some (.cells #[.int .i64 3, .int .i64 s1, .int .i64 s2] 38 (0, 0)) from ⟨HM.out.1.below hB6 HM.out.1.lt, HM.out.2.1.below hB6 HM.out.2.1.lt, below_step HM.out.2.2.2.1 hB6, (hB6.block _ (by have := HM.out.2.2.2.2.2.1; omega)).trans HM.out.2.2.2.2.2.2⟩); clear hr1 hr2 hB6 HEN hz0 hz1 hz2 hz3 hy0 hy1; obtain ⟨B1, d1_, e1⟩ := Kd.R_slice HR1.out; subst e1; obtain ⟨B2, d2_, e2⟩ := Kd.R_slice HR2.out; subst e2; have hz0 := HG.out.1.c0; have hz1 := HG.out.1.c1; have hz2 := HG.out.1.c2; have hz3 := HG.out.1.c3; have hq0 : W6.frozen? ⟨w.heap.size, 0, none⟩ = false := frozen_of_row _ _ _ _ _ HG.out.1; have hq1 : W6.frozen? ⟨w.heap.size, 1, none⟩ = false := frozen_of_row _ _ _ _ _ HG.out.1; have hq2 : W6.frozen? ⟨w.heap.size, 2, none⟩ = false := frozen_of_row _ _ _ _ _ HG.out.1; have hq3 : W6.frozen? ⟨w.heap.size, 3, none⟩ = false := frozen_of_row _ _ _ _ _ HG.out.1))
  clear hz0 hz1 hz2 hz3 hq0 hq1 hq2 hq3
  obtain ⟨W7, hW7⟩ : ∃ W7, W7 = (((W6.setCell ⟨w.heap.size, 0, none⟩ (.int .i64 r1)).setCell ⟨w.heap.size, 1, none⟩ (.slice B1 r2.length d1_)).setCell ⟨w.heap.size, 2, none⟩ (.slice B2 r3.length d2_)).setCell ⟨w.heap.size, 3, none⟩ (.bool r4) := ⟨_, rfl⟩
  rw [← hW7]
  have hfar : ∀ k, k ≠ w.heap.size → W7.heap[k]? = W6.heap[k]? := fun k hk => by rw [hW7, Below.heap_setCell _ _ _ _ hk, Below.heap_setCell _ _ _ _ hk, Below.heap_setCell _ _ _ _ hk, Below.heap_setCell _ _ _ _ hk]
  have HN := Aside0.mk (show bookAt W7 w.heap.size r1 (.slice B1 r2.length d1_) (.slice B2 r3.length d2_) r4 ∧ bookAt W7 (w.heap.size + 1) 0 (.slice none 0 0) (.slice none 0 0) false ∧ Below w.heap.size w W7 ∧ W7.heap[W4.heap.size]? = some (.cells #[.int .i64 3, .int .i64 s1, .int .i64 s2] 38 (0, 0)) from
    ⟨by rw [hW7]; refine blk_put (cs := #[.int .i64 r1, .slice B1 r2.length d1_, .slice B2 r3.length d2_, .bool fl]) ?_ 3 _ rfl; refine blk_put (cs := #[.int .i64 r1, .slice B1 r2.length d1_, .slice A1 l1.length c1, .bool fl]) ?_ 2 _ rfl; refine blk_put (cs := #[.int .i64 r1, .slice (some ad) l0.length c0, .slice A1 l1.length c1, .bool fl]) ?_ 1 _ rfl; refine blk_put (cs := #[.int .i64 t, .slice (some ad) l0.length c0, .slice A1 l1.length c1, .bool fl]) ?_ 0 _ rfl; exact HG.out.1,
     (hfar _ (by omega)).trans HG.out.2.1, by rw [hW7]; exact (((HG.out.2.2.1.setCell (Nat.le_refl _) _).setCell (Nat.le_refl _) _).setCell (Nat.le_refl _) _).setCell (Nat.le_refl _) _, (hfar _ (by have := HM.out.2.2.2.2.1; omega)).trans HG.out.2.2.2⟩)
  have hsz : w.heap.size + 4 ≤ W5.heap.size := by have := HM.out.2.2.2.2; omega
  have HS := Aside0.mk hsz
  have HQ1 := Aside0.mk (show Kd.R k38 38 W7 W5.heap.size (fun k => some k ≠ (Value.slice B2 r3.length d2_).ownBlock ∧ W5.heap.size ≤ k) (.slice B1 r2.length d1_) r2 from by
    rw [hW7]
    exact Kd.R_far (p := ⟨w.heap.size, 3, none⟩) (Kd.R_far (p := ⟨w.heap.size, 2, none⟩) (Kd.R_far (p := ⟨w.heap.size, 1, none⟩) (Kd.R_far (p := ⟨w.heap.size, 0, none⟩) HR1.out (fun k hk => by have := hk.2; simp; omega) _) (fun k hk => by have := hk.2; simp; omega) _) (fun k hk => by have := hk.2; simp; omega) _) (fun k hk => by have := hk.2; simp; omega) _)
  have HQ2 := Aside0.mk (show Kd.R k38 38 W7 W5.heap.size (fun k => some k ≠ (Value.slice B1 r2.length d1_).ownBlock ∧ W5.heap.size ≤ k) (.slice B2 r3.length d2_) r3 from by
    rw [hW7]
    exact Kd.R_far (p := ⟨w.heap.size, 3, none⟩) (Kd.R_far (p := ⟨w.heap.size, 2, none⟩) (Kd.R_far (p := ⟨w.heap.size, 1, none⟩) (Kd.R_far (p := ⟨w.heap.size, 0, none⟩) HR2.out (fun k hk => by have := hk.2; simp; omega) _) (fun k hk => by have := hk.2; simp; omega) _) (fun k hk => by have := hk.2; simp; omega) _) (fun k hk => by have := hk.2; simp; omega) _)
  clear hW7 hfar HG HR1 HR2 hsz HM
  subst hr5
  have hm0 : W7.cell? ⟨W4.heap.size, 0, none⟩ = some (.int .i64 3) := (blk_cell HN.out.2.2.2 0).trans rfl
  have hm1 : W7.cell? ⟨W4.heap.size, 1, none⟩ = some (.int .i64 s1) := (blk_cell HN.out.2.2.2 1).trans rfl
  have hz0 := HN.out.1.c0
  have hz1 := HN.out.1.c1
  have hz2 := HN.out.1.c2
  have hz3 := HN.out.1.c3
  have hc0 : W7.cell? ⟨w.heap.size + 1, 0, none⟩ = some (.int .i64 0) := HN.out.2.1.c0
  have hc1 : W7.cell? ⟨w.heap.size + 1, 1, none⟩ = some (.slice none 0 0) := HN.out.2.1.c1
  have hc2 : W7.cell? ⟨w.heap.size + 1, 2, none⟩ = some (.slice none 0 0) := HN.out.2.1.c2
  have hc3 : W7.cell? ⟨w.heap.size + 1, 3, none⟩ = some (.bool false) := HN.out.2.1.c3
  have hf0 : W7.frozen? ⟨w.heap.size + 1, 0, none⟩ = false := frozen_of_row _ _ _ _ _ HN.out.2.1
  have hf1 : W7.frozen? ⟨w.heap.size + 1, 1, none⟩ = false := frozen_of_row _ _ _ _ _ HN.out.2.1
  have hf2 : W7.frozen? ⟨w.heap.size + 1, 2, none⟩ = false := frozen_of_row _ _ _ _ _ HN.out.2.1
  have hf3 : W7.frozen? ⟨w.heap.size + 1, 3, none⟩ = false := frozen_of_row _ _ _ _ _ HN.out.2.1
  go_wp2_with fail
  refine bodyPost_ret (results_ctt rfl _ _ (w.heap.size + 1) 24 #[.int .i64 r1, .slice B1 r2.length d1_, .slice B2 r3.length d2_, .bool r4] (0, 0) _ rfl (by refine blk_put (cs := #[.int .i64 r1, .slice B1 r2.length d1_, .slice B2 r3.length d2_, .bool false]) ?_ 3 _ rfl; refine blk_put (cs := #[.int .i64 r1, .slice B1 r2.length d1_, .slice none 0 0, .bool false]) ?_ 2 _ rfl; refine blk_put (cs := #[.int .i64 r1, .slice none 0 0, .slice none 0 0, .bool false]) ?_ 1 _ rfl; refine blk_put (cs := #[.int .i64 0, .slice none 0 0, .slice none 0 0, .bool false]) ?_ 0 _ rfl; exact HN.out.2.1) Tryd.underlying24 rfl (by kernel_rfl)) rfl ?_
  have hs := HS.out
  refine ⟨_, _, rfl, ?_, ?_, (((HN.out.2.2.1.setCell (by simp) _).setCell (by simp) _).setCell (by simp) _).setCell (by simp) _⟩
  · exact Kd.R_lower (Kd.R_mono (Kd.R_far (p := ⟨w.heap.size + 1, 3, none⟩) (Kd.R_far (p := ⟨w.heap.size + 1, 2, none⟩) (Kd.R_far (p := ⟨w.heap.size + 1, 1, none⟩) (Kd.R_far (p := ⟨w.heap.size + 1, 0, none⟩) HQ1.out (fun k hk => by have := hk.2; simp; omega) _) (fun k hk => by have := hk.2; simp; omega) _) (fun k hk => by have := hk.2; simp; omega) _) (fun k hk => by have := hk.2; simp; omega) _) (fun k hk => hk.1)) (by omega)
  · exact Kd.R_lower (Kd.R_mono (Kd.R_far (p := ⟨w.heap.size + 1, 3, none⟩) (Kd.R_far (p := ⟨w.heap.size + 1, 2, none⟩) (Kd.R_far (p := ⟨w.heap.size + 1, 1, none⟩) (Kd.R_far (p := ⟨w.heap.size + 1, 0, none⟩) HQ2.out (fun k hk => by have := hk.2; simp; omega) _) (fun k hk => by have := hk.2; simp; omega) _) (fun k hk => by have := hk.2; simp; omega) _) (fun k hk => by have := hk.2; simp; omega) _) (fun k hk => hk.1)) (by omega)

set_option maxHeartbeats 4000000 in
set_option maxRecDepth 100000 in
theorem blame_guilty (t : Int) (fl : Bool) (A0 : Option Addr) (c0 : Nat) (l0 : List S38) (A1 : Option Addr) (c1 : Nat) (l1 : List S38) (a : Int) (b : Nat) (c : Int) (w : World)
    (h0 : Kd.C k38 w A0 l0.length l0) (h1 : Kd.C k38 w A1 l1.length l1) (hl0 : l0.length ≤ 6000000000000) (hl1 : l1.length ≤ 6000000000000) (hT : Tab w) (he : knownP t l0 l1 fl [⟨1, a⟩, ⟨0, (b : Int)⟩] = 0) (hb : b < l0.length) (hc : ¬ c < 1) (hc2 : ¬ (rd_T38 l0 (b : Int)).f1 < c) (r1 : Int) (r2 r3 : List S38) (r4 : Bool) (r5 : Int) (hend : endP t l0 l1 fl 1 a (fun s => ⟨2, s.f1, s.f2⟩) (fun _ => false) = (r1, r2, r3, r4, r5)) (hr5 : r5 = 0) (hst : (rd_T38 l0 (b : Int)).f0 = 3) (hat : (rd_T38 l0 (b : Int)).f1 = c) (hrd : rd_T38 r2 (b : Int) = rd_T38 l0 (b : Int)) (hrl : b < r2.length) (hch : 0 ≤ (rd_T38 l0 (b : Int)).f2 ∧ (rd_T38 l0 (b : Int)).f2 ≤ 1000) :
    Calls Tryd.prog 30 #[.agg #[.int .i64 t, .slice A0 l0.length c0, .slice A1 l1.length c1, .bool fl], .int .i64 a, .int .i64 b, .int .i64 c] w fun e_ w' => ∃ v1 v2 : Value, e_ = .returned (.tuple #[.agg #[.int .i64 r1, v1, v2, .bool (r4 || decide ((rd_T38 l0 (b : Int)).f2 + 1 = r1))], .bool true, .int .i64 0]) ∧ Kd.R k38 38 w' w.heap.size (fun k => some k ≠ v2.ownBlock) v1 (r2.set b ⟨0, (rd_T38 l0 (b : Int)).f1, (rd_T38 l0 (b : Int)).f2 + 1⟩) ∧ Kd.R k38 38 w' w.heap.size (fun k => some k ≠ v1.ownBlock) v2 r3 ∧ Below w.heap.size w w' := by
  have hl3 := lays4_of w t (.slice A0 l0.length c0) (.slice A1 l1.length c1) fl a b
  have hba : Below w.heap.size w ((w4of w t (.slice A0 l0.length c0) (.slice A1 l1.length c1) fl a b).alloc (.cells #[.int .i64 1, .int .i64 a, .int .i64 0, .int .i64 b] 29)) := below_alloc hl3.q0 _
  have hkn := known_any t fl A0 c0 l0 A1 c1 l1 (some ⟨(w4of w t (.slice A0 l0.length c0) (.slice A1 l1.length c1) fl a b).heap.size, 0, none⟩) 2 [⟨1, a⟩, ⟨0, b⟩] ((w4of w t (.slice A0 l0.length c0) (.slice A1 l1.length c1) fl a b).alloc (.cells #[.int .i64 1, .int .i64 a, .int .i64 0, .int .i64 b] 29)) (Kd.C_below h0 hba) (Kd.C_below h1 hba) (C_two (w4of w t (.slice A0 l0.length c0) (.slice A1 l1.length c1) fl a b) 1 a 0 b) (by simp) hl0 hl1 (hT.below hba)
  rw [he] at hkn
  have H0 := Aside0.mk h0
  have H1 := Aside0.mk h1
  have HT := Aside0.mk hT
  have HL0 := Aside0.mk (And.intro hl0 hl1)
  obtain ⟨W3, hW3⟩ : ∃ W3, (w4of w t (.slice A0 l0.length c0) (.slice A1 l1.length c1) fl a b) = W3 := ⟨_, rfl⟩
  rw [hW3] at hl3 hba hkn
  unfold w4of at hW3
  have HW3 := Aside0.mk hW3
  have HL := Aside0.mk hl3
  have HKN := Aside0.mk hkn
  have ha := below_alloc (Below.refl W3.heap.size W3) (.cells #[.int .i64 1, .int .i64 a, .int .i64 0, .int .i64 b] 29)
  have HBA := Aside0.mk ha
  clear hba hkn h0 h1 he hl3 hT hl0 hl1 ha hW3
  have hu22 := Tryd.underlying22
  have hu29 := Tryd.underlying29
  have hu24 := Tryd.underlying24
  have hu38 := Tryd.underlying38
  have hu26 := Tryd.underlying26
  have hz0 := HL.out.q2.c0
  have hz1 := HL.out.q2.c1
  have hz2 := HL.out.q2.c2
  have hz3 := HL.out.q2.c3
  have hy0 : W3.cell? ⟨w.heap.size + 1 + 1, 0, none⟩ = some (.int .i64 1) := (blk_cell HL.out.q4 0).trans rfl
  have hy1 : W3.cell? ⟨w.heap.size + 1 + 1, 1, none⟩ = some (.int .i64 a) := (blk_cell HL.out.q4 1).trans rfl
  have hy2 : W3.cell? ⟨w.heap.size + 1 + 1 + 1, 0, none⟩ = some (.int .i64 0) := (blk_cell HL.out.q5 0).trans rfl
  have hy3 : W3.cell? ⟨w.heap.size + 1 + 1 + 1, 1, none⟩ = some (.int .i64 b) := (blk_cell HL.out.q5 1).trans rfl
  obtain ⟨ad, ea, hx0, hx1, hx2⟩ := at_T38 H0.out (b : Int) (by omega) (by omega)
  subst ea
  rw [Int.toNat_natCast] at hx0 hx1 hx2
  obtain ⟨⟨sa, s1, s2⟩, hs⟩ : ∃ s, rd_T38 l0 (b : Int) = s := ⟨_, rfl⟩
  rw [hs] at hx0 hx1 hx2
  rw [hs] at hc2
  rw [hs] at hst
  rw [hs] at hat
  rw [hs] at hch
  rw [hs] at hrd
  rw [hs]
  dsimp only at *
  subst hst
  have d4 : (s1 == c) = true := beq_iff_eq.2 hat
  clear hat
  have HRD := Aside0.mk hrd
  clear hrd
  have HX := Aside0.mk (And.intro hx0 (And.intro hx1 hx2))
  have HBI := Aside0.mk hb
  clear hx0 hx1 hx2 hs
  have d1 : decide (c < 1) = false := decide_eq_false hc
  clear hc
  have d2 : decide (s1 < c) = false := decide_eq_false hc2
  clear hc2
  go_enter Tryd.func30, Tryd.ntmps30
  go_upto_region 2 with (fail)
  rw [HW3.out]
  clear HW3
  go_upto_region 5 with (go_at_call 54; go_must (refine HKN.out.mono ?_; rintro e_ W4 ⟨rfl, hB4⟩; have HF := Aside0.mk (HL.out.below (below_step HBA.out hB4)); clear hB4 HL HKN HBA hz0 hz1 hz2 hz3 hy0 hy1 hy2 hy3))
  have hz1 := HF.out.1.c1
  have hx0 := (HF.out.2.2.2.1.cell (World.block_lt_of_cell? w _ HX.out.1)).trans HX.out.1
  have hx1 := (HF.out.2.2.2.1.cell (World.block_lt_of_cell? w _ HX.out.2.1)).trans HX.out.2.1
  have hx2 := (HF.out.2.2.2.1.cell (World.block_lt_of_cell? w _ HX.out.2.2)).trans HX.out.2.2
  go_upto_region 6 with (fail)
  obtain ⟨W5, hW5⟩ : ∃ W5, W5 = W4.alloc (.cells #[.int .i64 3, .int .i64 s1, .int .i64 s2] 38) := ⟨_, rfl⟩
  rw [← hW5]
  have hb5 : Below W4.heap.size W4 W5 := by rw [hW5]; exact below_alloc (Below.refl _ _) _
  have hs5 : W5.heap.size = W4.heap.size + 1 := by rw [hW5]; simp
  have hr14 : W5.heap[W4.heap.size]? = some (.cells #[.int .i64 3, .int .i64 s1, .int .i64 s2] 38 (0, 0)) := by rw [hW5]; exact heap_alloc_new W4 _
  have HM := Aside0.mk (show bookAt W5 w.heap.size t _ _ fl ∧ bookAt W5 (w.heap.size + 1) 0 (.slice none 0 0) (.slice none 0 0) false ∧ W5.heap[w.heap.size + 1 + 1]? = some (.cells #[.int .i64 1, .int .i64 a] 29 (0, 0)) ∧ Below w.heap.size w W5 ∧ w.heap.size + 4 ≤ W4.heap.size ∧ W5.heap.size = W4.heap.size + 1 ∧ W5.heap[W4.heap.size]? = some (.cells #[.int .i64 3, .int .i64 s1, .int .i64 s2] 38 (0, 0)) from
    ⟨HF.out.1.below hb5 HF.out.1.lt, HF.out.2.1.below hb5 HF.out.2.1.lt, (hb5.block _ (by have := HF.out.2.2.2.2; omega)).trans HF.out.2.2.1, below_step HF.out.2.2.2.1 hb5, HF.out.2.2.2.2, hs5, hr14⟩)
  have hm1 : W5.cell? ⟨W4.heap.size, 1, none⟩ = some (.int .i64 s1) := (blk_cell hr14 1).trans rfl
  clear hW5 hb5 hs5 hr14 HF hz1 hx0 hx1 hx2
  go_upto_region 8 with (fail)
  clear hm1
  have hz0 := HM.out.1.c0
  have hz1 := HM.out.1.c1
  have hz2 := HM.out.1.c2
  have hz3 := HM.out.1.c3
  have hy0 : W5.cell? ⟨w.heap.size + 1 + 1, 0, none⟩ = some (.int .i64 1) := (blk_cell HM.out.2.2.1 0).trans rfl
  have hy1 : W5.cell? ⟨w.heap.size + 1 + 1, 1, none⟩ = some (.int .i64 a) := (blk_cell HM.out.2.2.1 1).trans rfl
  have hen := ended_any 59 #[] (enters_of Tryd.func59 (by kernel_rfl) rfl) (fun s => ⟨2, s.f1, s.f2⟩) (fun _ => false) t fl (some ad) c0 l0 A1 c1 l1 1 a r1 r2 r3 r4 r5 W5 (Kd.C_below H0.out HM.out.2.2.2.1) (Kd.C_below H1.out HM.out.2.2.2.1) HL0.out.1 HL0.out.2 (HT.out.below HM.out.2.2.2.1)
    (fun W gb gs off u0 u1 s g1 g2 g3 g4 g5 g6 g7 => do_hold W gb gs off t u0 u1 false s g3 g4 g5) hend
  have HEN := Aside0.mk hen
  clear hen hend
  go_upto_region 9 with (go_at_call 45; go_must (refine HEN.out.mono ?_; rintro e_ W6 ⟨v1, v2, rfl, hr1, hr2, hB6⟩; have HR1 := Aside0.mk (Kd.R_mono (Kd.R_bound hr1) (fun k hk => (⟨hk.1, hk.2.1⟩ : _ ∧ W5.heap.size ≤ k))); have HR2 := Aside0.mk (Kd.R_mono (Kd.R_bound hr2) (fun k hk => (⟨hk.1, hk.2.1⟩ : _ ∧ W5.heap.size ≤ k))); have HG := Aside0.mk (show bookAt W6 w.heap.size t _ _ fl ∧ bookAt W6 (w.heap.size + 1) 0 (.slice none 0 0) (.slice none 0 0) false ∧ Below w.heap.size w W6 ∧ W6.heap[W4.heap.size]? = some (.cells #[.int .i64 3, .int .i64 s1, .int .i64 s2] 38 (0, 0)) from ⟨HM.out.1.below hB6 HM.out.1.lt, HM.out.2.1.below hB6 HM.out.2.1.lt, below_step HM.out.2.2.2.1 hB6, (hB6.block _ (by have := HM.out.2.2.2.2.2.1; omega)).trans HM.out.2.2.2.2.2.2⟩); clear hr1 hr2 hB6 HEN hz0 hz1 hz2 hz3 hy0 hy1; obtain ⟨B1, d1_, e1⟩ := Kd.R_slice HR1.out; subst e1; obtain ⟨B2, d2_, e2⟩ := Kd.R_slice HR2.out; subst e2; have hz0 := HG.out.1.c0; have hz1 := HG.out.1.c1; have hz2 := HG.out.1.c2; have hz3 := HG.out.1.c3; have hq0 : W6.frozen? ⟨w.heap.size, 0, none⟩ = false := frozen_of_row _ _ _ _ _ HG.out.1; have hq1 : W6.frozen? ⟨w.heap.size, 1, none⟩ = false := frozen_of_row _ _ _ _ _ HG.out.1; have hq2 : W6.frozen? ⟨w.heap.size, 2, none⟩ = false := frozen_of_row _ _ _ _ _ HG.out.1; have hq3 : W6.frozen? ⟨w.heap.size, 3, none⟩ = false := frozen_of_row _ _ _ _ _ HG.out.1))
  clear hz0 hz1 hz2 hz3 hq0 hq1 hq2 hq3
  obtain ⟨W7, hW7⟩ : ∃ W7, W7 = (((W6.setCell ⟨w.heap.size, 0, none⟩ (.int .i64 r1)).setCell ⟨w.heap.size, 1, none⟩ (.slice B1 r2.length d1_)).setCell ⟨w.heap.size, 2, none⟩ (.slice B2 r3.length d2_)).setCell ⟨w.heap.size, 3, none⟩ (.bool r4) := ⟨_, rfl⟩
  rw [← hW7]
  have hfar : ∀ k, k ≠ w.heap.size → W7.heap[k]? = W6.heap[k]? := fun k hk => by rw [hW7, Below.heap_setCell _ _ _ _ hk, Below.heap_setCell _ _ _ _ hk, Below.heap_setCell _ _ _ _ hk, Below.heap_setCell _ _ _ _ hk]
  have HN := Aside0.mk (show bookAt W7 w.heap.size r1 (.slice B1 r2.length d1_) (.slice B2 r3.length d2_) r4 ∧ bookAt W7 (w.heap.size + 1) 0 (.slice none 0 0) (.slice none 0 0) false ∧ Below w.heap.size w W7 ∧ W7.heap[W4.heap.size]? = some (.cells #[.int .i64 3, .int .i64 s1, .int .i64 s2] 38 (0, 0)) from
    ⟨by rw [hW7]; refine blk_put (cs := #[.int .i64 r1, .slice B1 r2.length d1_, .slice B2 r3.length d2_, .bool fl]) ?_ 3 _ rfl; refine blk_put (cs := #[.int .i64 r1, .slice B1 r2.length d1_, .slice A1 l1.length c1, .bool fl]) ?_ 2 _ rfl; refine blk_put (cs := #[.int .i64 r1, .slice (some ad) l0.length c0, .slice A1 l1.length c1, .bool fl]) ?_ 1 _ rfl; refine blk_put (cs := #[.int .i64 t, .slice (some ad) l0.length c0, .slice A1 l1.length c1, .bool fl]) ?_ 0 _ rfl; exact HG.out.1,
     (hfar _ (by omega)).trans HG.out.2.1, by rw [hW7]; exact (((HG.out.2.2.1.setCell (Nat.le_refl _) _).setCell (Nat.le_refl _) _).setCell (Nat.le_refl _) _).setCell (Nat.le_refl _) _, (hfar _ (by have := HM.out.2.2.2.2.1; omega)).trans HG.out.2.2.2⟩)
  have hsz : w.heap.size + 4 ≤ W5.heap.size := by have := HM.out.2.2.2.2; omega
  have HS := Aside0.mk hsz
  have HQ1 := Aside0.mk (show Kd.R k38 38 W7 W5.heap.size (fun k => some k ≠ (Value.slice B2 r3.length d2_).ownBlock ∧ W5.heap.size ≤ k) (.slice B1 r2.length d1_) r2 from by
    rw [hW7]
    exact Kd.R_far (p := ⟨w.heap.size, 3, none⟩) (Kd.R_far (p := ⟨w.heap.size, 2, none⟩) (Kd.R_far (p := ⟨w.heap.size, 1, none⟩) (Kd.R_far (p := ⟨w.heap.size, 0, none⟩) HR1.out (fun k hk => by have := hk.2; simp; omega) _) (fun k hk => by have := hk.2; simp; omega) _) (fun k hk => by have := hk.2; simp; omega) _) (fun k hk => by have := hk.2; simp; omega) _)
  have HQ2 := Aside0.mk (show Kd.R k38 38 W7 W5.heap.size (fun k => some k ≠ (Value.slice B1 r2.length d1_).ownBlock ∧ W5.heap.size ≤ k) (.slice B2 r3.length d2_) r3 from by
    rw [hW7]
    exact Kd.R_far (p := ⟨w.heap.size, 3, none⟩) (Kd.R_far (p := ⟨w.heap.size, 2, none⟩) (Kd.R_far (p := ⟨w.heap.size, 1, none⟩) (Kd.R_far (p := ⟨w.heap.size, 0, none⟩) HR2.out (fun k hk => by have := hk.2; simp; omega) _) (fun k hk => by have := hk.2; simp; omega) _) (fun k hk => by have := hk.2; simp; omega) _) (fun k hk => by have := hk.2; simp; omega) _)
  clear hW7 hfar HG HR1 HR2 hsz HM
  subst hr5
  have hm0 : W7.cell? ⟨W4.heap.size, 0, none⟩ = some (.int .i64 3) := (blk_cell HN.out.2.2.2 0).trans rfl
  have hm1 : W7.cell? ⟨W4.heap.size, 1, none⟩ = some (.int .i64 s1) := (blk_cell HN.out.2.2.2 1).trans rfl
  obtain ⟨g, cg, eg, hg1, hg2, _⟩ := Kd.R_form HQ1.out (by omega)
  injection eg with eg1 eg2 eg3
  subst eg1 eg3
  have hgo := HQ1.out.1 g rfl
  have HGO := Aside0.mk hgo
  have hta := taskAt_own HQ1.out b hrl
  rw [HRD.out] at hta
  have hcg := do_charge W7 w.heap.size g (b * 3) r1 _ _ r4 ⟨3, s1, s2⟩ HN.out.1 hta (by have := HS.out; omega) hch.1 hch.2
  have HCG := Aside0.mk hcg
  have HRL := Aside0.mk hrl
  have hlt1 : decide ((b : Int) < (r2.length : Int)) = true := by simp; omega
  clear hgo hta hcg hch hg1 hg2
  have hz1 := HN.out.1.c1
  go_upto_region 14 with (go_at_call 50; go_must (refine HCG.out.mono ?_; rintro e_ W8 ⟨rfl, q, hW8⟩; have HP := Aside0.mk (show bookAt W8 w.heap.size r1 _ _ (r4 || decide (s2 + 1 = r1)) ∧ bookAt W8 (w.heap.size + 1) 0 (.slice none 0 0) (.slice none 0 0) false ∧ Below w.heap.size w W8 ∧ True from (by have hs := HS.out; have hq := HGO.out; rw [hW8]; exact ⟨book_put4 HN.out.1 _ _ (by omega), (put4_heap W7 g (b * 3) _ w.heap.size _ _ (by omega) (by omega)).trans HN.out.2.1, pw_below_drewN (below_put4 HN.out.2.2.1 _ _ (by omega) (Nat.le_refl _)) q, trivial⟩)); have HT1 := Aside0.mk (show Kd.R k38 38 W8 W5.heap.size _ _ (r2.set b ⟨0, s1, s2 + 1⟩) from (by have hs := HS.out; rw [hW8]; exact Kd.R_drewN (R_put4 HQ1.out b HRL.out ⟨0, s1, s2 + 1⟩ (r4 || decide (s2 + 1 = r1)) (fun h => by have := h.2; omega)) q)); have HT2 := Aside0.mk (show Kd.R k38 38 W8 W5.heap.size _ _ r3 from (by have hs := HS.out; rw [hW8]; exact Kd.R_drewN (R_put4_far HQ2.out ⟨0, s1, s2 + 1⟩ (r4 || decide (s2 + 1 = r1)) (fun h => h.1 rfl) (fun h => by have := h.2; omega)) q)); clear hW8 HN HCG HQ1 HQ2 hz1 hm0 hm1))
  have hz0 := HP.out.1.c0
  have hz1 := HP.out.1.c1
  have hz2 := HP.out.1.c2
  have hz3 := HP.out.1.c3
  have hc0 : W8.cell? ⟨w.heap.size + 1, 0, none⟩ = some (.int .i64 0) := HP.out.2.1.c0
  have hc1 : W8.cell? ⟨w.heap.size + 1, 1, none⟩ = some (.slice none 0 0) := HP.out.2.1.c1
  have hc2 : W8.cell? ⟨w.heap.size + 1, 2, none⟩ = some (.slice none 0 0) := HP.out.2.1.c2
  have hc3 : W8.cell? ⟨w.heap.size + 1, 3, none⟩ = some (.bool false) := HP.out.2.1.c3
  have hf0 : W8.frozen? ⟨w.heap.size + 1, 0, none⟩ = false := frozen_of_row _ _ _ _ _ HP.out.2.1
  have hf1 : W8.frozen? ⟨w.heap.size + 1, 1, none⟩ = false := frozen_of_row _ _ _ _ _ HP.out.2.1
  have hf2 : W8.frozen? ⟨w.heap.size + 1, 2, none⟩ = false := frozen_of_row _ _ _ _ _ HP.out.2.1
  have hf3 : W8.frozen? ⟨w.heap.size + 1, 3, none⟩ = false := frozen_of_row _ _ _ _ _ HP.out.2.1
  go_wp2_with fail
  refine bodyPost_ret (results_ctt rfl _ _ (w.heap.size + 1) 24 #[.int .i64 r1, .slice (some ⟨g, 0, none⟩) r2.length d1_, .slice B2 r3.length d2_, .bool (r4 || decide (s2 + 1 = r1))] (0, 0) _ rfl (by refine blk_put (cs := #[.int .i64 r1, .slice (some ⟨g, 0, none⟩) r2.length d1_, .slice B2 r3.length d2_, .bool false]) ?_ 3 _ rfl; refine blk_put (cs := #[.int .i64 r1, .slice (some ⟨g, 0, none⟩) r2.length d1_, .slice none 0 0, .bool false]) ?_ 2 _ rfl; refine blk_put (cs := #[.int .i64 r1, .slice none 0 0, .slice none 0 0, .bool false]) ?_ 1 _ rfl; refine blk_put (cs := #[.int .i64 0, .slice none 0 0, .slice none 0 0, .bool false]) ?_ 0 _ rfl; exact HP.out.2.1) Tryd.underlying24 rfl (by kernel_rfl)) rfl ?_
  have hs := HS.out
  refine ⟨_, _, rfl, ?_, ?_, (((HP.out.2.2.1.setCell (by simp) _).setCell (by simp) _).setCell (by simp) _).setCell (by simp) _⟩
  · exact Kd.R_lower (Kd.R_mono (Kd.R_far (p := ⟨w.heap.size + 1, 3, none⟩) (Kd.R_far (p := ⟨w.heap.size + 1, 2, none⟩) (Kd.R_far (p := ⟨w.heap.size + 1, 1, none⟩) (Kd.R_far (p := ⟨w.heap.size + 1, 0, none⟩) HT1.out (fun k hk => by have := hk.2; simp; omega) _) (fun k hk => by have := hk.2; simp; omega) _) (fun k hk => by have := hk.2; simp; omega) _) (fun k hk => by have := hk.2; simp; omega) _) (fun k hk => hk.1)) (by omega)
  · exact Kd.R_lower (Kd.R_mono (Kd.R_far (p := ⟨w.heap.size + 1, 3, none⟩) (Kd.R_far (p := ⟨w.heap.size + 1, 2, none⟩) (Kd.R_far (p := ⟨w.heap.size + 1, 1, none⟩) (Kd.R_far (p := ⟨w.heap.size + 1, 0, none⟩) HT2.out (fun k hk => by have := hk.2; simp; omega) _) (fun k hk => by have := hk.2; simp; omega) _) (fun k hk => by have := hk.2; simp; omega) _) (fun k hk => by have := hk.2; simp; omega) _) (fun k hk => hk.1)) (by omega)
end Go.Proofs.YtponmfnegdlppaaDoor.P

end
section
/- ledger.Blame in the print's form. -/
namespace Go.Proofs.YtponmfnegdlppaaDoor.P
open Go.RowKit Go.Proofs.YtponmfnegdlppaaDoorW.PrintWords Go.Proofs.YtponmfnegdlppaaDoorW.PrintLast Go.Proofs.YtponmfnegdlppaaDoorW.PrintMore
set_option linter.unusedVariables false
set_option linter.unusedSimpArgs false

def holdP (t : Int) (l0 l1 : List S38) (fl : Bool) (a : Int) : Int × List S38 × List S38 × Bool × Int := endP t l0 l1 fl 1 a (fun s => ⟨2, s.f1, s.f2⟩) (fun _ => false)
/-- what is blamed, when the reduce task could be held -/
def chargeP (r : Int × List S38 × List S38 × Bool × Int) (b c : Int) (s : S38) : Int × List S38 × List S38 × Bool × Bool × Int :=
  if s.f0 = 3 ∧ s.f1 = c then (r.1, r.2.1.set b.toNat ⟨0, s.f1, s.f2 + 1⟩, r.2.2.1, r.2.2.2.1 || decide (s.f2 + 1 = r.1), true, 0) else (r.1, r.2.1, r.2.2.1, r.2.2.2.1, false, 0)
/-- a Blame -/
def blameP (t : Int) (l0 l1 : List S38) (fl : Bool) (a b c : Int) : Int × List S38 × List S38 × Bool × Bool × Int :=
  if knownP t l0 l1 fl [⟨1, a⟩, ⟨0, b⟩] = 0 then
    if c < 1 ∨ (rd_T38 l0 b).f1 < c then (0, [], [], false, false, 3)
    else if (holdP t l0 l1 fl a).2.2.2.2 = 0 then chargeP (holdP t l0 l1 fl a) b c (rd_T38 l0 b)
    else (0, [], [], false, false, (holdP t l0 l1 fl a).2.2.2.2)
  else (0, [], [], false, false, knownP t l0 l1 fl [⟨1, a⟩, ⟨0, b⟩])
theorem known_two {t : Int} {l0 l1 : List S38} {fl : Bool} {a b : Int} (h : knownP t l0 l1 fl [⟨1, a⟩, ⟨0, b⟩] = 0) : checkP t l0 l1 fl = 0 ∧ (∃ m : Nat, a = m ∧ m < l1.length) ∧ ∃ n : Nat, b = n ∧ n < l0.length := by
  obtain ⟨h1, h2⟩ := known_zero h
  refine ⟨h1, ?_⟩
  simp only [scanT] at h2
  by_cases hk : okT l0.length l1.length ⟨1, a⟩ = true
  · rw [if_pos hk] at h2
    by_cases hk2 : okT l0.length l1.length ⟨0, b⟩ = true
    · refine ⟨?_, ?_⟩
      · rcases okT_form hk with ⟨h, _⟩ | ⟨_, h⟩
        · exact absurd h (by decide)
        · exact h
      · rcases okT_form hk2 with ⟨_, h⟩ | ⟨h, _⟩
        · exact h
        · exact absurd h (by decide)
    · rw [if_neg hk2] at h2; cases h2
  · rw [if_neg hk] at h2; cases h2
theorem hold_same {t : Int} {l0 l1 : List S38} {fl : Bool} {a : Int} (h : (holdP t l0 l1 fl a).2.2.2.2 = 0) : (holdP t l0 l1 fl a).1 = t ∧ (holdP t l0 l1 fl a).2.1 = l0 := by
  unfold holdP endP at h ⊢
  by_cases hk : knownP t l0 l1 fl [⟨1, a⟩] = 0
  · rw [if_pos hk] at h ⊢
    by_cases h1 : fl = true ∨ (stP l0 l1 1 a).f0 ≠ 1
    · rw [if_pos h1] at h
      exact absurd h (by decide)
    · rw [if_neg h1, if_neg (by decide)] at h ⊢
      exact ⟨rfl, rfl⟩
  · rw [if_neg hk] at h
    exact absurd h hk

theorem blame_any (t : Int) (fl : Bool) (A0 : Option Addr) (c0 : Nat) (l0 : List S38) (A1 : Option Addr) (c1 : Nat) (l1 : List S38) (a b c : Int) (r1 : Int) (r2 r3 : List S38) (r4 r5 : Bool) (r6 : Int) (w : World)
    (h0 : Kd.C k38 w A0 l0.length l0) (h1 : Kd.C k38 w A1 l1.length l1) (hl0 : l0.length ≤ 6000000000000) (hl1 : l1.length ≤ 6000000000000) (hT : Tab w) (h : blameP t l0 l1 fl a b c = (r1, r2, r3, r4, r5, r6)) :
    Calls Tryd.prog 30 #[.agg #[.int .i64 t, .slice A0 l0.length c0, .slice A1 l1.length c1, .bool fl], .int .i64 a, .int .i64 b, .int .i64 c] w fun e_ w' =>
      ∃ v1 v2 : Value, e_ = .returned (.tuple #[.agg #[.int .i64 r1, v1, v2, .bool r4], .bool r5, .int .i64 r6]) ∧ Kd.R k38 38 w' w.heap.size (fun k => some k ≠ v2.ownBlock) v1 r2 ∧ Kd.R k38 38 w' w.heap.size (fun k => some k ≠ v1.ownBlock) v2 r3 ∧ Below w.heap.size w w' := by
  unfold blameP at h
  by_cases hk : knownP t l0 l1 fl [⟨1, a⟩, ⟨0, b⟩] = 0
  · rw [if_pos hk] at h
    obtain ⟨hc, ⟨m, rfl, hm⟩, n, rfl, hn⟩ := known_two hk
    obtain ⟨q1, q2, q3, q4, q5, q6, q7, _⟩ := check_ok hc
    by_cases c1' : c < 1
    · rw [if_pos (.inl c1')] at h
      simp only [Prod.mk.injEq] at h
      obtain ⟨rfl, rfl, rfl, rfl, rfl, rfl⟩ := h
      refine (blame_arg1 t fl A0 c0 l0 A1 c1 l1 m n c w h0 h1 hl0 hl1 hT hk hn c1').mono ?_
      rintro e w' ⟨rfl, hB⟩
      exact ⟨_, _, rfl, Kd.R_nil _ _ _ _ _, Kd.R_nil _ _ _ _ _, hB⟩
    by_cases c2' : (rd_T38 l0 (n : Int)).f1 < c
    · rw [if_pos (.inr c2')] at h
      simp only [Prod.mk.injEq] at h
      obtain ⟨rfl, rfl, rfl, rfl, rfl, rfl⟩ := h
      refine (blame_arg2 t fl A0 c0 l0 A1 c1 l1 m n c w h0 h1 hl0 hl1 hT hk hn c1' c2').mono ?_
      rintro e w' ⟨rfl, hB⟩
      exact ⟨_, _, rfl, Kd.R_nil _ _ _ _ _, Kd.R_nil _ _ _ _ _, hB⟩
    rw [if_neg (by rintro (h | h); exact c1' h; exact c2' h)] at h
    obtain ⟨s1, s2, s3, s4, s5, hh⟩ : ∃ s1 s2 s3 s4 s5, holdP t l0 l1 fl (m : Int) = (s1, s2, s3, s4, s5) := ⟨_, _, _, _, _, rfl⟩
    have hsame := @hold_same t l0 l1 fl (m : Int)
    rw [hh] at h hsame
    simp only at h hsame
    by_cases h5 : s5 = 0
    · rw [if_pos h5] at h
      obtain ⟨e1, e2⟩ := hsame h5
      unfold chargeP at h
      by_cases hg : (rd_T38 l0 (n : Int)).f0 = 3 ∧ (rd_T38 l0 (n : Int)).f1 = c
      · rw [if_pos hg, Int.toNat_natCast] at h
        simp only [Prod.mk.injEq] at h
        obtain ⟨rfl, rfl, rfl, rfl, rfl, rfl⟩ := h
        exact blame_guilty t fl A0 c0 l0 A1 c1 l1 m n c w h0 h1 hl0 hl1 hT hk hn c1' c2' s1 s2 s3 s4 s5 hh h5 hg.1 hg.2 (by rw [e2]) (by rw [e2]; exact hn) (good_charge q2 (q6 _ (rd_mem hn)))
      · rw [if_neg hg] at h
        simp only [Prod.mk.injEq] at h
        obtain ⟨rfl, rfl, rfl, rfl, rfl, rfl⟩ := h
        by_cases h3 : (rd_T38 l0 (n : Int)).f0 = 3
        · exact blame_free3 t fl A0 c0 l0 A1 c1 l1 m n c w h0 h1 hl0 hl1 hT hk hn c1' c2' s1 s2 s3 s4 s5 hh h5 h3 (fun h => hg ⟨h3, h⟩)
        · exact blame_other t fl A0 c0 l0 A1 c1 l1 m n c w h0 h1 hl0 hl1 hT hk hn c1' c2' s1 s2 s3 s4 s5 hh h5 h3
    · rw [if_neg h5] at h
      simp only [Prod.mk.injEq] at h
      obtain ⟨rfl, rfl, rfl, rfl, rfl, rfl⟩ := h
      refine (blame_enderr t fl A0 c0 l0 A1 c1 l1 m n c w h0 h1 hl0 hl1 hT hk hn c1' c2' s1 s2 s3 s4 s5 hh h5).mono ?_
      rintro e w' ⟨rfl, hB⟩
      exact ⟨_, _, rfl, Kd.R_nil _ _ _ _ _, Kd.R_nil _ _ _ _ _, hB⟩
  · rw [if_neg hk] at h
    simp only [Prod.mk.injEq] at h
    obtain ⟨rfl, rfl, rfl, rfl, rfl, rfl⟩ := h
    refine (blame_bad t fl A0 c0 l0 A1 c1 l1 a b c w h0 h1 hl0 hl1 hT _ rfl hk).mono ?_
    rintro e w' ⟨rfl, hB⟩
    exact ⟨_, _, rfl, Kd.R_nil _ _ _ _ _, Kd.R_nil _ _ _ _ _, hB⟩
end Go.Proofs.YtponmfnegdlppaaDoor.P

end
section
-- Written by a program of this session (wip/tools/hprint.py, over the kit's printer), not by hand. Lean checks it.
namespace Go.Proofs.YtponmfnegdlppaaDoor.P
open Go.RowKit Go.Proofs.YtponmfnegdlppaaDoorW.PrintWords Go.Proofs.YtponmfnegdlppaaDoorW.PrintLast Go.Proofs.YtponmfnegdlppaaDoorW.PrintMore
attribute [local go_sem] max2_int min2_int max_two min_two max_three min_three max_four min_four
set_option linter.unusedVariables false
set_option linter.unusedSimpArgs false

/-! ### ledger_all: function 40 -/
def ledger_all.l0 : Nat → List (S38) → Int → Int → Option (Bool)
  | 0, _, _, _ => none
  | k + 1, x5, x6, x7 => if x7 < x6 then (if 0 ≤ x7 then (if x7 < (x5.length : Int) then (if ((rd_T38 x5 x7).f0) = 3 then (ledger_all.l0 k x5 x6 (wrap64 (x7 + 1))) else (some false)) else (none)) else (none)) else (some true)
def ledger_all.f (k : Nat) (l0 : List (S38)) : Option (Bool) := ledger_all.l0 k l0 (l0.length : Int) 0
theorem ledger_all.mono_l : ∀ k, (∀ y0 y1 y2, LeO (ledger_all.l0 k y0 y1 y2) (ledger_all.l0 (k + 1) y0 y1 y2))
  | 0 => fun _ _ _ r h => by simp [ledger_all.l0] at h
  | k + 1 => by
    have ih0 := ledger_all.mono_l k
    · intro y0 y1 y2
      unfold ledger_all.l0
      repeat' first
      | (with_reducible exact ih0 _ _ _)
      | (with_reducible exact LeO.refl _)
      | (with_reducible exact LeO.none _)
      | (with_reducible refine LeO.ite ?_ ?_)
      | (with_reducible refine LeO.bind ?_ (fun _ => ?_))
      | exact ih0 _ _ _
      | exact LeO.none _
      | refine LeO.ite ?_ ?_
      | refine LeO.bind ?_ (fun _ => ?_)
theorem ledger_all.mono : ∀ a0 k, LeO (ledger_all.f k a0) (ledger_all.f (k + 1) a0) := by
  intro a0 k
  have ih0 := ledger_all.mono_l k
  unfold ledger_all.f
  repeat' first
      | (with_reducible exact ih0 _ _ _)
      | (with_reducible exact LeO.refl _)
      | (with_reducible exact LeO.none _)
      | (with_reducible refine LeO.ite ?_ ?_)
      | (with_reducible refine LeO.bind ?_ (fun _ => ?_))
      | exact ih0 _ _ _
      | exact LeO.none _
      | refine LeO.ite ?_ ?_
      | refine LeO.bind ?_ (fun _ => ?_)
set_option maxHeartbeats 8000000 in
set_option maxRecDepth 100000 in
theorem ledger_all.calls (k : Nat) (A0 : Option Addr) (c0 : Nat) (l0 : List (S38)) (r : Bool) (w : World) (hr0 : Kd.C k38 w A0 l0.length l0) (hc0 : l0.length ≤ c0) (h : ledger_all.f k l0 = some r) :
    Calls Tryd.prog 40 #[.slice A0 l0.length c0] w fun e w' => e = .returned (.bool r) ∧ Below w.heap.size w w' := by
  have hu38 := Tryd.underlying38
  have HR0 := Aside0.mk hr0
  have HC0 := Aside0.mk hc0
  clear hr0 hc0
  have HB := Aside0.mk (Below.refl w.heap.size w)
  have H : (ledger_all.l0 k l0 (l0.length : Int) 0) = some r := h
  clear h
  have H' := Aside0.mk H
  clear H
  go_enter Tryd.func40, Tryd.ntmps40
  go_wp2
  go_loopg [7] k (fun kq v7 w' => ∃ (x7_1 : Int), v7 = .int .i64 x7_1 ∧ Aside0 (ledger_all.l0 kq l0 (l0.length : Int) x7_1 = some r) ∧ Aside0 (kq ≤ k) ∧ Aside0 (Below w.heap.size w w'))
  case atStart => exact ⟨(0), (by first | rfl | (simp; done) | (simp [*]; done)), H', ⟨Nat.le_refl _⟩, ⟨by repeat (first | (with_reducible first | exact HB.out | apply below_alloc | apply pw_below_drewN | apply below_drew1) | exact HB.out)⟩⟩
  case round =>
    clear H'
    obtain ⟨x7_1, rfl, HA, HK1, HB⟩ := hrel
    cases gk with
    | zero => exact absurd HA.out (by simp [ledger_all.l0])
    | succ k1 =>
      have H := HA.out
      clear HA
      simp only [ledger_all.l0] at H
      by_cases c2 : x7_1 < (l0.length : Int)
      · rw [if_pos c2] at H
        have c2b0 : decide (x7_1 < (l0.length : Int)) = true := decide_eq_true c2
        clear c2
        by_cases c3 : 0 ≤ x7_1
        · rw [if_pos c3] at H
          have c3b0 : decide (0 ≤ x7_1) = true := decide_eq_true c3
          clear c3
          by_cases c4 : x7_1 < (l0.length : Int)
          · rw [if_pos c4] at H
            have c4b0 : decide (x7_1 < (l0.length : Int)) = true := decide_eq_true c4
            clear c4
            by_cases c5 : ((rd_T38 l0 x7_1).f0) = 3
            · rw [if_pos c5] at H
              have c5b0 : (((rd_T38 l0 x7_1).f0) == 3) = true := beq_iff_eq.mpr c5
              have c5b1 : (((rd_T38 l0 x7_1).f0) != 3) = false := bne_eq_false_iff_eq.mpr c5
              clear c5
              have H' := Aside0.mk H
              clear H
              have p119 : 0 ≤ (x7_1 : Int) := of_decide_eq_true (by first | (with_reducible assumption) | assumption)
              have q119 : x7_1 < (l0.length : Int) := of_decide_eq_true (by first | (with_reducible assumption) | assumption)
              obtain ⟨ad119, e119, hx119_0, hx119_1, hx119_2⟩ := at_T38 HR0.out x7_1 p119 q119
              cases e119
              replace hx119_0 := (HB.out.cell (World.block_lt_of_cell? w _ hx119_0)).trans hx119_0
              replace hx119_1 := (HB.out.cell (World.block_lt_of_cell? w _ hx119_1)).trans hx119_1
              replace hx119_2 := (HB.out.cell (World.block_lt_of_cell? w _ hx119_2)).trans hx119_2
              replace p119 := eq_true p119
              replace q119 := eq_true q119
              go_wp2_with (first | ((with_reducible refine gate_dst (N := 4) rfl ?_); refine box_event ?hg (N := 4) ?hd (cs := #[.int .i64 0, .int .i64 0, .int .i64 0]) (t := 38) ?hr ?_; (case hd => rfl); (case hg => rfl); (case hr => first | (go_simp; done) | (go_simp; rfl)); intro gb120 hg w6 hbox hb; have n0_ := Aside0.mk (below_step (by repeat (first | (with_reducible first | exact HB.out | apply below_alloc | apply pw_below_drewN | apply below_drew1) | exact HB.out)) hb); have n1_ := Aside0.mk (hbox); have n2_ := Aside0.mk ((by rw [hg]; exact (below_size (by repeat (first | (with_reducible first | exact HB.out | apply below_alloc | apply pw_below_drewN | apply below_drew1) | exact HB.out))) : w.heap.size ≤ gb120)); have n3_ := Aside0.mk ((by rw [hg]; exact (below_size (by repeat (first | (with_reducible first | exact HB.out | apply below_alloc | apply pw_below_drewN | apply below_drew1) | exact HB.out))) : w.heap.size ≤ gb120)); clear HB; have HB := n0_; have BK120 := n1_; have GW120 := n2_; have GE120 := n3_; clear n0_ n1_ n2_ n3_; clear hb hbox hg; have hcz7_0 : w6.cell? ⟨gb120, 0, none⟩ = some (.int .i64 0) := (blk_cell BK120.out 0).trans rfl; have hcz7_1 : w6.cell? ⟨gb120, 1, none⟩ = some (.int .i64 0) := (blk_cell BK120.out 1).trans rfl; have hcz7_2 : w6.cell? ⟨gb120, 2, none⟩ = some (.int .i64 0) := (blk_cell BK120.out 2).trans rfl; have hfz7_0 := blk_frozen BK120.out 0; have hfz7_1 := blk_frozen BK120.out 1; have hfz7_2 := blk_frozen BK120.out 2))
              go_roundg k1
              case measure => have := HK1.out; omega
              case rel => exact ⟨(wrap64 (x7_1 + 1)), (by first | rfl | (simp; done) | (simp [*]; done)), H', ⟨by have := HK1.out; omega⟩, ⟨by repeat (first | (with_reducible first | exact HB.out | apply below_alloc | apply pw_below_drewN | apply below_drew1 | refine below_set ?_ GE120.out) | exact HB.out)⟩⟩
            · rw [if_neg c5] at H
              have c5b0 : (((rd_T38 l0 x7_1).f0) == 3) = false := beq_eq_false_iff_ne.mpr c5
              have c5b1 : (((rd_T38 l0 x7_1).f0) != 3) = true := bne_iff_ne.mpr c5
              obtain rfl := Option.some.inj H
              have p119 : 0 ≤ (x7_1 : Int) := of_decide_eq_true (by first | (with_reducible assumption) | assumption)
              have q119 : x7_1 < (l0.length : Int) := of_decide_eq_true (by first | (with_reducible assumption) | assumption)
              obtain ⟨ad119, e119, hx119_0, hx119_1, hx119_2⟩ := at_T38 HR0.out x7_1 p119 q119
              cases e119
              replace hx119_0 := (HB.out.cell (World.block_lt_of_cell? w _ hx119_0)).trans hx119_0
              replace hx119_1 := (HB.out.cell (World.block_lt_of_cell? w _ hx119_1)).trans hx119_1
              replace hx119_2 := (HB.out.cell (World.block_lt_of_cell? w _ hx119_2)).trans hx119_2
              replace p119 := eq_true p119
              replace q119 := eq_true q119
              go_wp2_with (first | ((with_reducible refine gate_dst (N := 4) rfl ?_); refine box_event ?hg (N := 4) ?hd (cs := #[.int .i64 0, .int .i64 0, .int .i64 0]) (t := 38) ?hr ?_; (case hd => rfl); (case hg => rfl); (case hr => first | (go_simp; done) | (go_simp; rfl)); intro gb120 hg w8 hbox hb; have n0_ := Aside0.mk (below_step (by repeat (first | (with_reducible first | exact HB.out | apply below_alloc | apply pw_below_drewN | apply below_drew1) | exact HB.out)) hb); have n1_ := Aside0.mk (hbox); have n2_ := Aside0.mk ((by rw [hg]; exact (below_size (by repeat (first | (with_reducible first | exact HB.out | apply below_alloc | apply pw_below_drewN | apply below_drew1) | exact HB.out))) : w.heap.size ≤ gb120)); have n3_ := Aside0.mk ((by rw [hg]; exact (below_size (by repeat (first | (with_reducible first | exact HB.out | apply below_alloc | apply pw_below_drewN | apply below_drew1) | exact HB.out))) : w.heap.size ≤ gb120)); clear HB; have HB := n0_; have BK120 := n1_; have GW120 := n2_; have GE120 := n3_; clear n0_ n1_ n2_ n3_; clear hb hbox hg; have hcz9_0 : w8.cell? ⟨gb120, 0, none⟩ = some (.int .i64 0) := (blk_cell BK120.out 0).trans rfl; have hcz9_1 : w8.cell? ⟨gb120, 1, none⟩ = some (.int .i64 0) := (blk_cell BK120.out 1).trans rfl; have hcz9_2 : w8.cell? ⟨gb120, 2, none⟩ = some (.int .i64 0) := (blk_cell BK120.out 2).trans rfl; have hfz9_0 := blk_frozen BK120.out 0; have hfz9_1 := blk_frozen BK120.out 1; have hfz9_2 := blk_frozen BK120.out 2))
              go_ret
              exact ⟨by first | rfl | (simp [errW_none, errW_some] <;> rfl) | (simp [*, errW_none, errW_some] <;> rfl), by repeat (first | (with_reducible first | exact HB.out | apply below_alloc | apply pw_below_drewN | apply below_drew1 | refine below_set ?_ GE120.out) | exact HB.out)⟩
          · rw [if_neg c4] at H
            exact absurd H (by simp)
        · rw [if_neg c3] at H
          exact absurd H (by simp)
      · rw [if_neg c2] at H
        have c2b0 : decide (x7_1 < (l0.length : Int)) = false := decide_eq_false c2
        clear c2
        obtain rfl := Option.some.inj H
        go_wp2
        go_ret
        exact ⟨by first | rfl | (simp [errW_none, errW_some] <;> rfl) | (simp [*, errW_none, errW_some] <;> rfl), by repeat (first | (with_reducible first | exact HB.out | apply below_alloc | apply pw_below_drewN | apply below_drew1) | exact HB.out)⟩

end Go.Proofs.YtponmfnegdlppaaDoor.P

end
