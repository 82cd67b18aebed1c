/- Several texts laid together (wip/tools/merge2.py): Pf36, Pf61, Pf63, HNote, RunPlain, RunBegin, RunMoves, RunFew, RunStep, AskReady, RunComes, RunRound. -/
import Derived.Test.YtponmfnegdlppaaDoorMC1
import Derived.Test.YtponmfnegdlppaaDoorMC3
import Derived.Test.YtponmfnegdlppaaDoorMC2
import Derived.Test.YtponmfnegdlppaaDoorMC4
section
-- Written by a program of this session (wip/tools/hprint.py, over the kit's printer), not by hand. Lean checks it.
namespace Go.Proofs.YtponmfnegdlppaaDoor.P
open Go.RowKit Go.Proofs.YtponmfnegdlppaaDoorW.PrintWords Go.Proofs.YtponmfnegdlppaaDoorW.PrintLast Go.Proofs.YtponmfnegdlppaaDoorW.PrintMore
attribute [local go_sem] max2_int min2_int max_two min_two max_three min_three max_four min_four
set_option linter.unusedVariables false
set_option linter.unusedSimpArgs false

/-! ### winnowlaw19_picked: function 36 -/
def winnowlaw19_picked.f (a0 : Int) (a1 : Int) (a2 : Int) : Option (Int × Int) := (winnowlaw19_few.f a0 0 (wrap64 ((wrap64 (a1 + a2)) - 1))).bind fun t367 => (if t367 < a1 then (some (0, t367)) else (some (1, wrap64 (t367 - a1))))
set_option maxHeartbeats 8000000 in
set_option maxRecDepth 100000 in
theorem winnowlaw19_picked.calls (a0 : Int) (a1 : Int) (a2 : Int) (r1 : Int) (r2 : Int) (w : World) (h : winnowlaw19_picked.f a0 a1 a2 = some (r1, r2)) :
    Calls Tryd.prog 36 #[.int .i64 a0, .int .i64 a1, .int .i64 a2] w fun e w' => e = .returned (.agg #[.int .i64 r1, .int .i64 r2]) ∧ Below w.heap.size w w' := by
  have hu29 := Tryd.underlying29
  have HB := Aside0.mk (Below.refl w.heap.size w)
  have H : ((winnowlaw19_few.f a0 0 (wrap64 ((wrap64 (a1 + a2)) - 1))).bind fun t367 => (if t367 < a1 then (some (0, t367)) else (some (1, wrap64 (t367 - a1))))) = some (r1, r2) := h
  clear h
  replace H := Option.bind_eq_some_iff.mp H
  obtain ⟨t367, A40, H⟩ := H
  replace H : (if t367 < a1 then (some (0, t367)) else (some (1, wrap64 (t367 - a1)))) = some (r1, r2) := H
  have A4 := Aside0.mk A40
  clear A40
  by_cases c5 : t367 < a1
  · rw [if_pos c5] at H
    have c5b0 : decide (t367 < a1) = true := decide_eq_true c5
    clear c5
    simp only [Option.some.injEq, Prod.mk.injEq] at H
    obtain ⟨rfl, rfl⟩ := H
    go_enter Tryd.func36, Tryd.ntmps36
    go_wp2_with (first | ((with_reducible refine gate_dst (N := 6) rfl ?_); refine box_event ?hg (N := 6) ?hd (cs := #[.int .i64 0, .int .i64 0]) (t := 29) ?hr ?_; (case hd => rfl); (case hg => rfl); (case hr => first | (go_simp; done) | (go_simp; rfl)); intro gb366 hg w6 hbox hb; have n0_ := Aside0.mk (below_step (by repeat (first | (with_reducible first | exact HB.out | apply below_alloc | apply pw_below_drewN | apply below_drew1) | exact HB.out)) hb); have n1_ := Aside0.mk (hbox); have n2_ := Aside0.mk ((by rw [hg]; exact (below_size (by repeat (first | (with_reducible first | exact HB.out | apply below_alloc | apply pw_below_drewN | apply below_drew1) | exact HB.out))) : w.heap.size ≤ gb366)); have n3_ := Aside0.mk ((by rw [hg]; exact (below_size (by repeat (first | (with_reducible first | exact HB.out | apply below_alloc | apply pw_below_drewN | apply below_drew1) | exact HB.out))) : w.heap.size ≤ gb366)); clear HB; have HB := n0_; have BK366 := n1_; have GW366 := n2_; have GE366 := n3_; clear n0_ n1_ n2_ n3_; clear hb hbox hg) | ((with_reducible refine gate_callee (f := 32) rfl ?_); refine goesL_ (some 13) rfl rfl Tryd.func32 (by kernel_rfl) rfl #[.int .i64 a0, .int .i64 0, .int .i64 (wrap64 ((wrap64 (a1 + a2)) - 1))] rfl (by (try simp only [List.map_toArray, List.map_cons, List.map_nil]); first | done | rfl | (simp only [List.length_drop, List.length_take]; rfl)) ?_; (with_reducible refine (winnowlaw19_few.calls a0 0 (wrap64 ((wrap64 (a1 + a2)) - 1)) t367 _ A4.out).mono ?_); rintro e w' ⟨rfl, ⟨nd, rfl⟩⟩; refine ⟨_, rfl, ?_⟩; (try (rw [drewN_self w6]; generalize hq_ : World.drewN w6 _ = w6; have n0_ : Aside0 (w6.heap[gb366]? = some (.cells #[.int .i64 0, .int .i64 0] 29 (0, 0))) := ⟨by rw [← hq_]; exact (by (with_reducible repeat (first | refine blk_drewN ?_ _ | refine blk_drew ?_ | refine blk_alloc ?_ _)); exact BK366.out)⟩; have n1_ : Aside0 (Below w.heap.size w w6) := ⟨by rw [← hq_]; exact (by repeat (first | (with_reducible first | exact HB.out | apply below_alloc | apply pw_below_drewN | apply below_drew1 | refine below_set ?_ GE366.out) | exact HB.out))⟩; clear BK366 HB hq_; have BK366 := n0_; have HB := n1_; clear n0_ n1_)); have hcz7_0 : w6.cell? ⟨gb366, 0, none⟩ = some (.int .i64 0) := (blk_cell BK366.out 0).trans rfl; have hcz7_1 : w6.cell? ⟨gb366, 1, none⟩ = some (.int .i64 0) := (blk_cell BK366.out 1).trans rfl; have hfz7_0 := blk_frozen BK366.out 0; have hfz7_1 := blk_frozen BK366.out 1))
    refine bodyPost_ret (results_cell_row rfl _ _ gb366 29 #[.int .i64 0, .int .i64 t367] (0, 0) _ rfl (by (with_reducible repeat (first | refine blk_drewN ?_ _ | refine blk_drew ?_ | refine blk_alloc ?_ _)); refine blk_put (cs := #[.int .i64 0, .int .i64 0]) ?_ 1 _ rfl; (with_reducible repeat (first | refine blk_drewN ?_ _ | refine blk_drew ?_ | refine blk_alloc ?_ _)); refine blk_put (cs := #[.int .i64 0, .int .i64 0]) ?_ 0 _ rfl; (with_reducible repeat (first | refine blk_drewN ?_ _ | refine blk_drew ?_ | refine blk_alloc ?_ _)); exact BK366.out) Tryd.underlying29 rfl (by kernel_rfl)) rfl ?_
    exact ⟨by first | rfl | (simp [errW_none, errW_some] <;> rfl) | (simp [*, errW_none, errW_some] <;> rfl), by repeat (first | (with_reducible first | exact HB.out | apply below_alloc | apply pw_below_drewN | apply below_drew1 | refine below_set ?_ GE366.out) | exact HB.out)⟩
  · rw [if_neg c5] at H
    have c5b0 : decide (t367 < a1) = false := decide_eq_false c5
    clear c5
    simp only [Option.some.injEq, Prod.mk.injEq] at H
    obtain ⟨rfl, rfl⟩ := H
    go_enter Tryd.func36, Tryd.ntmps36
    go_wp2_with (first | ((with_reducible refine gate_dst (N := 6) rfl ?_); refine box_event ?hg (N := 6) ?hd (cs := #[.int .i64 0, .int .i64 0]) (t := 29) ?hr ?_; (case hd => rfl); (case hg => rfl); (case hr => first | (go_simp; done) | (go_simp; rfl)); intro gb366 hg w8 hbox hb; have n0_ := Aside0.mk (below_step (by repeat (first | (with_reducible first | exact HB.out | apply below_alloc | apply pw_below_drewN | apply below_drew1) | exact HB.out)) hb); have n1_ := Aside0.mk (hbox); have n2_ := Aside0.mk ((by rw [hg]; exact (below_size (by repeat (first | (with_reducible first | exact HB.out | apply below_alloc | apply pw_below_drewN | apply below_drew1) | exact HB.out))) : w.heap.size ≤ gb366)); have n3_ := Aside0.mk ((by rw [hg]; exact (below_size (by repeat (first | (with_reducible first | exact HB.out | apply below_alloc | apply pw_below_drewN | apply below_drew1) | exact HB.out))) : w.heap.size ≤ gb366)); clear HB; have HB := n0_; have BK366 := n1_; have GW366 := n2_; have GE366 := n3_; clear n0_ n1_ n2_ n3_; clear hb hbox hg) | ((with_reducible refine gate_callee (f := 32) rfl ?_); refine goesL_ (some 13) rfl rfl Tryd.func32 (by kernel_rfl) rfl #[.int .i64 a0, .int .i64 0, .int .i64 (wrap64 ((wrap64 (a1 + a2)) - 1))] rfl (by (try simp only [List.map_toArray, List.map_cons, List.map_nil]); first | done | rfl | (simp only [List.length_drop, List.length_take]; rfl)) ?_; (with_reducible refine (winnowlaw19_few.calls a0 0 (wrap64 ((wrap64 (a1 + a2)) - 1)) t367 _ A4.out).mono ?_); rintro e w' ⟨rfl, ⟨nd, rfl⟩⟩; refine ⟨_, rfl, ?_⟩; (try (rw [drewN_self w8]; generalize hq_ : World.drewN w8 _ = w8; have n0_ : Aside0 (w8.heap[gb366]? = some (.cells #[.int .i64 0, .int .i64 0] 29 (0, 0))) := ⟨by rw [← hq_]; exact (by (with_reducible repeat (first | refine blk_drewN ?_ _ | refine blk_drew ?_ | refine blk_alloc ?_ _)); exact BK366.out)⟩; have n1_ : Aside0 (Below w.heap.size w w8) := ⟨by rw [← hq_]; exact (by repeat (first | (with_reducible first | exact HB.out | apply below_alloc | apply pw_below_drewN | apply below_drew1 | refine below_set ?_ GE366.out) | exact HB.out))⟩; clear BK366 HB hq_; have BK366 := n0_; have HB := n1_; clear n0_ n1_)); have hcz9_0 : w8.cell? ⟨gb366, 0, none⟩ = some (.int .i64 0) := (blk_cell BK366.out 0).trans rfl; have hcz9_1 : w8.cell? ⟨gb366, 1, none⟩ = some (.int .i64 0) := (blk_cell BK366.out 1).trans rfl; have hfz9_0 := blk_frozen BK366.out 0; have hfz9_1 := blk_frozen BK366.out 1))
    refine bodyPost_ret (results_cell_row rfl _ _ gb366 29 #[.int .i64 1, .int .i64 (wrap64 (t367 - a1))] (0, 0) _ rfl (by (with_reducible repeat (first | refine blk_drewN ?_ _ | refine blk_drew ?_ | refine blk_alloc ?_ _)); refine blk_put (cs := #[.int .i64 1, .int .i64 0]) ?_ 1 _ rfl; (with_reducible repeat (first | refine blk_drewN ?_ _ | refine blk_drew ?_ | refine blk_alloc ?_ _)); refine blk_put (cs := #[.int .i64 0, .int .i64 0]) ?_ 0 _ rfl; (with_reducible repeat (first | refine blk_drewN ?_ _ | refine blk_drew ?_ | refine blk_alloc ?_ _)); exact BK366.out) Tryd.underlying29 rfl (by kernel_rfl)) rfl ?_
    exact ⟨by first | rfl | (simp [errW_none, errW_some] <;> rfl) | (simp [*, errW_none, errW_some] <;> rfl), by repeat (first | (with_reducible first | exact HB.out | apply below_alloc | apply pw_below_drewN | apply below_drew1 | refine below_set ?_ GE366.out) | exact HB.out)⟩

end Go.Proofs.YtponmfnegdlppaaDoor.P

end
section
-- Written by a program of this session (wip/tools/hprint.py, over the kit's printer), not by hand. Lean checks it.
namespace Go.Proofs.YtponmfnegdlppaaDoor.P
open Go.RowKit Go.Proofs.YtponmfnegdlppaaDoorW.PrintWords Go.Proofs.YtponmfnegdlppaaDoorW.PrintLast Go.Proofs.YtponmfnegdlppaaDoorW.PrintMore
attribute [local go_sem] max2_int min2_int max_two min_two max_three min_three max_four min_four
set_option linter.unusedVariables false
set_option linter.unusedSimpArgs false

/-! ### winnowlaw19_number: function 61 -/
def winnowlaw19_number.f (a0_0 : Int) (a0_1 : Int) (a1 : Int) : Option (Int) := if a0_0 = 0 then (some a0_1) else (some (wrap64 (a1 + a0_1)))
set_option maxHeartbeats 8000000 in
set_option maxRecDepth 100000 in
theorem winnowlaw19_number.calls (a0_0 : Int) (a0_1 : Int) (a1 : Int) (r : Int) (w : World) (h : winnowlaw19_number.f a0_0 a0_1 a1 = some r) :
    Calls Tryd.prog 61 #[.agg #[.int .i64 a0_0, .int .i64 a0_1], .int .i64 a1] w fun e w' => e = .returned (.int .i64 r) ∧ Below w.heap.size w w' := by
  have hu29 := Tryd.underlying29
  have HB := Aside0.mk (Below.refl w.heap.size w)
  have H : (if a0_0 = 0 then (some a0_1) else (some (wrap64 (a1 + a0_1)))) = some r := h
  clear h
  by_cases c3 : a0_0 = 0
  · rw [if_pos c3] at H
    have c3b0 : (a0_0 == 0) = true := beq_iff_eq.mpr c3
    have c3b1 : (a0_0 != 0) = false := bne_eq_false_iff_eq.mpr c3
    clear c3
    obtain rfl := Option.some.inj H
    go_enter Tryd.func61, Tryd.ntmps61
    go_wp2_with (first | ((with_reducible refine gate_dst (N := 2) rfl ?_); refine box_event ?hg (N := 2) ?hd (cs := #[.int .i64 a0_0, .int .i64 a0_1]) (t := 29) ?hr ?_; (case hd => rfl); (case hg => rfl); (case hr => first | (go_simp; done) | (go_simp; rfl)); intro gb368 hg w4 hbox hb; have n0_ := Aside0.mk (below_step (by repeat (first | (with_reducible first | exact HB.out | apply below_alloc | apply pw_below_drewN | apply below_drew1) | exact HB.out)) hb); have n1_ := Aside0.mk (hbox); have n2_ := Aside0.mk ((by rw [hg]; exact (below_size (by repeat (first | (with_reducible first | exact HB.out | apply below_alloc | apply pw_below_drewN | apply below_drew1) | exact HB.out))) : w.heap.size ≤ gb368)); have n3_ := Aside0.mk ((by rw [hg]; exact (below_size (by repeat (first | (with_reducible first | exact HB.out | apply below_alloc | apply pw_below_drewN | apply below_drew1) | exact HB.out))) : w.heap.size ≤ gb368)); clear HB; have HB := n0_; have BK368 := n1_; have GW368 := n2_; have GE368 := n3_; clear n0_ n1_ n2_ n3_; clear hb hbox hg; have hcz5_0 : w4.cell? ⟨gb368, 0, none⟩ = some (.int .i64 a0_0) := (blk_cell BK368.out 0).trans rfl; have hcz5_1 : w4.cell? ⟨gb368, 1, none⟩ = some (.int .i64 a0_1) := (blk_cell BK368.out 1).trans rfl; have hfz5_0 := blk_frozen BK368.out 0; have hfz5_1 := blk_frozen BK368.out 1))
    go_ret
    exact ⟨by first | rfl | (simp [errW_none, errW_some] <;> rfl) | (simp [*, errW_none, errW_some] <;> rfl), by repeat (first | (with_reducible first | exact HB.out | apply below_alloc | apply pw_below_drewN | apply below_drew1 | refine below_set ?_ GE368.out) | exact HB.out)⟩
  · rw [if_neg c3] at H
    have c3b0 : (a0_0 == 0) = false := beq_eq_false_iff_ne.mpr c3
    have c3b1 : (a0_0 != 0) = true := bne_iff_ne.mpr c3
    obtain rfl := Option.some.inj H
    go_enter Tryd.func61, Tryd.ntmps61
    go_wp2_with (first | ((with_reducible refine gate_dst (N := 2) rfl ?_); refine box_event ?hg (N := 2) ?hd (cs := #[.int .i64 a0_0, .int .i64 a0_1]) (t := 29) ?hr ?_; (case hd => rfl); (case hg => rfl); (case hr => first | (go_simp; done) | (go_simp; rfl)); intro gb368 hg w6 hbox hb; have n0_ := Aside0.mk (below_step (by repeat (first | (with_reducible first | exact HB.out | apply below_alloc | apply pw_below_drewN | apply below_drew1) | exact HB.out)) hb); have n1_ := Aside0.mk (hbox); have n2_ := Aside0.mk ((by rw [hg]; exact (below_size (by repeat (first | (with_reducible first | exact HB.out | apply below_alloc | apply pw_below_drewN | apply below_drew1) | exact HB.out))) : w.heap.size ≤ gb368)); have n3_ := Aside0.mk ((by rw [hg]; exact (below_size (by repeat (first | (with_reducible first | exact HB.out | apply below_alloc | apply pw_below_drewN | apply below_drew1) | exact HB.out))) : w.heap.size ≤ gb368)); clear HB; have HB := n0_; have BK368 := n1_; have GW368 := n2_; have GE368 := n3_; clear n0_ n1_ n2_ n3_; clear hb hbox hg; have hcz7_0 : w6.cell? ⟨gb368, 0, none⟩ = some (.int .i64 a0_0) := (blk_cell BK368.out 0).trans rfl; have hcz7_1 : w6.cell? ⟨gb368, 1, none⟩ = some (.int .i64 a0_1) := (blk_cell BK368.out 1).trans rfl; have hfz7_0 := blk_frozen BK368.out 0; have hfz7_1 := blk_frozen BK368.out 1))
    go_ret
    exact ⟨by first | rfl | (simp [errW_none, errW_some] <;> rfl) | (simp [*, errW_none, errW_some] <;> rfl), by repeat (first | (with_reducible first | exact HB.out | apply below_alloc | apply pw_below_drewN | apply below_drew1 | refine below_set ?_ GE368.out) | exact HB.out)⟩

end Go.Proofs.YtponmfnegdlppaaDoor.P

end
section
-- Written by a program of this session (wip/tools/hprint.py, over the kit's printer), not by hand. Lean checks it.
namespace Go.Proofs.YtponmfnegdlppaaDoor.P
open Go.RowKit Go.Proofs.YtponmfnegdlppaaDoorW.PrintWords Go.Proofs.YtponmfnegdlppaaDoorW.PrintLast Go.Proofs.YtponmfnegdlppaaDoorW.PrintMore
attribute [local go_sem] max2_int min2_int max_two min_two max_three min_three max_four min_four
set_option linter.unusedVariables false
set_option linter.unusedSimpArgs false

/-! ### winnowlaw19_attempt: function 63 -/
def winnowlaw19_attempt.f (a0_0 : Int) (l0_1 : List (S38)) (l0_2 : List (S38)) (a0_3 : Bool) (a1_0 : Int) (a1_1 : Int) : Option (Int) := if a1_0 = 0 then (if 0 ≤ a1_1 then (if a1_1 < (l0_1.length : Int) then (some ((rd_T38 l0_1 a1_1).f1)) else (none)) else (none)) else (if 0 ≤ a1_1 then (if a1_1 < (l0_2.length : Int) then (some ((rd_T38 l0_2 a1_1).f1)) else (none)) else (none))
set_option maxHeartbeats 8000000 in
set_option maxRecDepth 100000 in
theorem winnowlaw19_attempt.calls (a0_0 : Int) (A0_1 : Option Addr) (c0_1 : Nat) (l0_1 : List (S38)) (A0_2 : Option Addr) (c0_2 : Nat) (l0_2 : List (S38)) (a0_3 : Bool) (a1_0 : Int) (a1_1 : Int) (r : Int) (w : World) (hr0_1 : Kd.C k38 w A0_1 l0_1.length l0_1) (hc0_1 : l0_1.length ≤ c0_1) (hr0_2 : Kd.C k38 w A0_2 l0_2.length l0_2) (hc0_2 : l0_2.length ≤ c0_2) (h : winnowlaw19_attempt.f a0_0 l0_1 l0_2 a0_3 a1_0 a1_1 = some r) :
    Calls Tryd.prog 63 #[.agg #[.int .i64 a0_0, .slice A0_1 l0_1.length c0_1, .slice A0_2 l0_2.length c0_2, .bool a0_3], .agg #[.int .i64 a1_0, .int .i64 a1_1]] w fun e w' => e = .returned (.int .i64 r) ∧ Below w.heap.size w w' := by
  have hu24 := Tryd.underlying24
  have hu29 := Tryd.underlying29
  have HR0_1 := Aside0.mk hr0_1
  have HC0_1 := Aside0.mk hc0_1
  clear hr0_1 hc0_1
  have HR0_2 := Aside0.mk hr0_2
  have HC0_2 := Aside0.mk hc0_2
  clear hr0_2 hc0_2
  have HB := Aside0.mk (Below.refl w.heap.size w)
  have H : (if a1_0 = 0 then (if 0 ≤ a1_1 then (if a1_1 < (l0_1.length : Int) then (some ((rd_T38 l0_1 a1_1).f1)) else (none)) else (none)) else (if 0 ≤ a1_1 then (if a1_1 < (l0_2.length : Int) then (some ((rd_T38 l0_2 a1_1).f1)) else (none)) else (none))) = some r := h
  clear h
  by_cases c3 : a1_0 = 0
  · rw [if_pos c3] at H
    have c3b0 : (a1_0 == 0) = true := beq_iff_eq.mpr c3
    have c3b1 : (a1_0 != 0) = false := bne_eq_false_iff_eq.mpr c3
    clear c3
    by_cases c4 : 0 ≤ a1_1
    · rw [if_pos c4] at H
      have c4b0 : decide (0 ≤ a1_1) = true := decide_eq_true c4
      clear c4
      by_cases c5 : a1_1 < (l0_1.length : Int)
      · rw [if_pos c5] at H
        have c5b0 : decide (a1_1 < (l0_1.length : Int)) = true := decide_eq_true c5
        clear c5
        obtain rfl := Option.some.inj H
        go_enter Tryd.func63, Tryd.ntmps63
        go_wp2_with (first | ((with_reducible refine gate_dst (N := 2) rfl ?_); refine box_event ?hg (N := 2) ?hd (cs := #[.int .i64 a0_0, .slice A0_1 l0_1.length c0_1, .slice A0_2 l0_2.length c0_2, .bool a0_3]) (t := 24) ?hr ?_; (case hd => rfl); (case hg => rfl); (case hr => first | (go_simp; done) | (go_simp; rfl)); intro gb369 hg w6 hbox hb; have n0_ := Aside0.mk (below_step (by repeat (first | (with_reducible first | exact HB.out | apply below_alloc | apply pw_below_drewN | apply below_drew1) | exact HB.out)) hb); have n1_ := Aside0.mk (hbox); have n2_ := Aside0.mk ((by rw [hg]; exact (below_size (by repeat (first | (with_reducible first | exact HB.out | apply below_alloc | apply pw_below_drewN | apply below_drew1) | exact HB.out))) : w.heap.size ≤ gb369)); have n3_ := Aside0.mk ((by rw [hg]; exact (below_size (by repeat (first | (with_reducible first | exact HB.out | apply below_alloc | apply pw_below_drewN | apply below_drew1) | exact HB.out))) : w.heap.size ≤ gb369)); clear HB; have HB := n0_; have BK369 := n1_; have GW369 := n2_; have GE369 := n3_; clear n0_ n1_ n2_ n3_; clear hb hbox hg) | ((with_reducible refine gate_dst (N := 3) rfl ?_); refine box_event ?hg (N := 3) ?hd (cs := #[.int .i64 a1_0, .int .i64 a1_1]) (t := 29) ?hr ?_; (case hd => rfl); (case hg => rfl); (case hr => first | (go_simp; done) | (go_simp; rfl)); intro gb370 hg w7 hbox hb; have n0_ := Aside0.mk (blk_below (g := gb369) (o := .cells #[.int .i64 a0_0, .slice A0_1 l0_1.length c0_1, .slice A0_2 l0_2.length c0_2, .bool a0_3] 24 (0, 0)) (by (with_reducible repeat (first | refine blk_drewN ?_ _ | refine blk_drew ?_ | refine blk_alloc ?_ _)); exact BK369.out) hb); have n1_ := Aside0.mk (below_step (by repeat (first | (with_reducible first | exact HB.out | apply below_alloc | apply pw_below_drewN | apply below_drew1 | refine below_set ?_ GE369.out) | exact HB.out)) hb); have n2_ := Aside0.mk (hbox); have n3_ := Aside0.mk ((by rw [hg]; exact (below_size (by repeat (first | (with_reducible first | exact HB.out | apply below_alloc | apply pw_below_drewN | apply below_drew1 | refine below_set ?_ GE369.out) | exact HB.out))) : w.heap.size ≤ gb370)); have n4_ := Aside0.mk ((by rw [hg]; exact (below_size (by repeat (first | (with_reducible first | exact HB.out | apply below_alloc | apply pw_below_drewN | apply below_drew1 | refine below_set ?_ GE369.out) | exact HB.out))) : w.heap.size ≤ gb370)); have n5_ := Aside0.mk ((by rw [hg]; exact Nat.ne_of_lt (blk_lt (g := gb369) (o := .cells #[.int .i64 a0_0, .slice A0_1 l0_1.length c0_1, .slice A0_2 l0_2.length c0_2, .bool a0_3] 24 (0, 0)) (by (with_reducible repeat (first | refine blk_drewN ?_ _ | refine blk_drew ?_ | refine blk_alloc ?_ _)); exact BK369.out)) : gb369 ≠ gb370)); have n6_ := Aside0.mk ((by rw [hg]; exact Nat.ne_of_gt (blk_lt (g := gb369) (o := .cells #[.int .i64 a0_0, .slice A0_1 l0_1.length c0_1, .slice A0_2 l0_2.length c0_2, .bool a0_3] 24 (0, 0)) (by (with_reducible repeat (first | refine blk_drewN ?_ _ | refine blk_drew ?_ | refine blk_alloc ?_ _)); exact BK369.out)) : gb370 ≠ gb369)); clear BK369; clear HB; have BK369 := n0_; have HB := n1_; have BK370 := n2_; have GW370 := n3_; have GE370 := n4_; have NB369_370 := n5_; have NB370_369 := n6_; clear n0_ n1_ n2_ n3_ n4_ n5_ n6_; clear hb hbox hg; have hnb8 := NB370_369.out; have hnc8 := NB369_370.out; have hcz9_0 : w7.cell? ⟨gb370, 0, none⟩ = some (.int .i64 a1_0) := (blk_cell BK370.out 0).trans rfl; have hcz9_1 : w7.cell? ⟨gb370, 1, none⟩ = some (.int .i64 a1_1) := (blk_cell BK370.out 1).trans rfl; have hfz9_0 := blk_frozen BK370.out 0; have hfz9_1 := blk_frozen BK370.out 1; have hcz10_0 : w7.cell? ⟨gb369, 0, none⟩ = some (.int .i64 a0_0) := (blk_cell BK369.out 0).trans rfl; have hcz10_1 : w7.cell? ⟨gb369, 1, none⟩ = some (.slice A0_1 l0_1.length c0_1) := (blk_cell BK369.out 1).trans rfl; have hcz10_2 : w7.cell? ⟨gb369, 2, none⟩ = some (.slice A0_2 l0_2.length c0_2) := (blk_cell BK369.out 2).trans rfl; have hcz10_3 : w7.cell? ⟨gb369, 3, none⟩ = some (.bool a0_3) := (blk_cell BK369.out 3).trans rfl; have hfz10_0 := blk_frozen BK369.out 0; have hfz10_1 := blk_frozen BK369.out 1; have hfz10_2 := blk_frozen BK369.out 2; have hfz10_3 := blk_frozen BK369.out 3; have p371 : 0 ≤ (a1_1 : Int) := of_decide_eq_true (by first | (with_reducible assumption) | assumption); have q371 : a1_1 < (l0_1.length : Int) := of_decide_eq_true (by first | (with_reducible assumption) | assumption); obtain ⟨ad371, e371, hx371_0, hx371_1, hx371_2⟩ := at_T38 HR0_1.out a1_1 p371 q371; cases e371; replace hx371_0 := (HB.out.cell (World.block_lt_of_cell? w _ hx371_0)).trans hx371_0; replace hx371_1 := (HB.out.cell (World.block_lt_of_cell? w _ hx371_1)).trans hx371_1; replace hx371_2 := (HB.out.cell (World.block_lt_of_cell? w _ hx371_2)).trans hx371_2; replace p371 := eq_true p371; replace q371 := eq_true q371))
        go_ret
        exact ⟨by first | rfl | (simp [errW_none, errW_some] <;> rfl) | (simp [*, errW_none, errW_some] <;> rfl), by repeat (first | (with_reducible first | exact HB.out | apply below_alloc | apply pw_below_drewN | apply below_drew1 | refine below_set ?_ GE369.out | refine below_set ?_ GE370.out) | exact HB.out)⟩
      · rw [if_neg c5] at H
        exact absurd H (by simp)
    · rw [if_neg c4] at H
      exact absurd H (by simp)
  · rw [if_neg c3] at H
    have c3b0 : (a1_0 == 0) = false := beq_eq_false_iff_ne.mpr c3
    have c3b1 : (a1_0 != 0) = true := bne_iff_ne.mpr c3
    by_cases c11 : 0 ≤ a1_1
    · rw [if_pos c11] at H
      have c11b0 : decide (0 ≤ a1_1) = true := decide_eq_true c11
      clear c11
      by_cases c12 : a1_1 < (l0_2.length : Int)
      · rw [if_pos c12] at H
        have c12b0 : decide (a1_1 < (l0_2.length : Int)) = true := decide_eq_true c12
        clear c12
        obtain rfl := Option.some.inj H
        go_enter Tryd.func63, Tryd.ntmps63
        go_wp2_with (first | ((with_reducible refine gate_dst (N := 2) rfl ?_); refine box_event ?hg (N := 2) ?hd (cs := #[.int .i64 a0_0, .slice A0_1 l0_1.length c0_1, .slice A0_2 l0_2.length c0_2, .bool a0_3]) (t := 24) ?hr ?_; (case hd => rfl); (case hg => rfl); (case hr => first | (go_simp; done) | (go_simp; rfl)); intro gb369 hg w13 hbox hb; have n0_ := Aside0.mk (below_step (by repeat (first | (with_reducible first | exact HB.out | apply below_alloc | apply pw_below_drewN | apply below_drew1) | exact HB.out)) hb); have n1_ := Aside0.mk (hbox); have n2_ := Aside0.mk ((by rw [hg]; exact (below_size (by repeat (first | (with_reducible first | exact HB.out | apply below_alloc | apply pw_below_drewN | apply below_drew1) | exact HB.out))) : w.heap.size ≤ gb369)); have n3_ := Aside0.mk ((by rw [hg]; exact (below_size (by repeat (first | (with_reducible first | exact HB.out | apply below_alloc | apply pw_below_drewN | apply below_drew1) | exact HB.out))) : w.heap.size ≤ gb369)); clear HB; have HB := n0_; have BK369 := n1_; have GW369 := n2_; have GE369 := n3_; clear n0_ n1_ n2_ n3_; clear hb hbox hg) | ((with_reducible refine gate_dst (N := 3) rfl ?_); refine box_event ?hg (N := 3) ?hd (cs := #[.int .i64 a1_0, .int .i64 a1_1]) (t := 29) ?hr ?_; (case hd => rfl); (case hg => rfl); (case hr => first | (go_simp; done) | (go_simp; rfl)); intro gb370 hg w14 hbox hb; have n0_ := Aside0.mk (blk_below (g := gb369) (o := .cells #[.int .i64 a0_0, .slice A0_1 l0_1.length c0_1, .slice A0_2 l0_2.length c0_2, .bool a0_3] 24 (0, 0)) (by (with_reducible repeat (first | refine blk_drewN ?_ _ | refine blk_drew ?_ | refine blk_alloc ?_ _)); exact BK369.out) hb); have n1_ := Aside0.mk (below_step (by repeat (first | (with_reducible first | exact HB.out | apply below_alloc | apply pw_below_drewN | apply below_drew1 | refine below_set ?_ GE369.out) | exact HB.out)) hb); have n2_ := Aside0.mk (hbox); have n3_ := Aside0.mk ((by rw [hg]; exact (below_size (by repeat (first | (with_reducible first | exact HB.out | apply below_alloc | apply pw_below_drewN | apply below_drew1 | refine below_set ?_ GE369.out) | exact HB.out))) : w.heap.size ≤ gb370)); have n4_ := Aside0.mk ((by rw [hg]; exact (below_size (by repeat (first | (with_reducible first | exact HB.out | apply below_alloc | apply pw_below_drewN | apply below_drew1 | refine below_set ?_ GE369.out) | exact HB.out))) : w.heap.size ≤ gb370)); have n5_ := Aside0.mk ((by rw [hg]; exact Nat.ne_of_lt (blk_lt (g := gb369) (o := .cells #[.int .i64 a0_0, .slice A0_1 l0_1.length c0_1, .slice A0_2 l0_2.length c0_2, .bool a0_3] 24 (0, 0)) (by (with_reducible repeat (first | refine blk_drewN ?_ _ | refine blk_drew ?_ | refine blk_alloc ?_ _)); exact BK369.out)) : gb369 ≠ gb370)); have n6_ := Aside0.mk ((by rw [hg]; exact Nat.ne_of_gt (blk_lt (g := gb369) (o := .cells #[.int .i64 a0_0, .slice A0_1 l0_1.length c0_1, .slice A0_2 l0_2.length c0_2, .bool a0_3] 24 (0, 0)) (by (with_reducible repeat (first | refine blk_drewN ?_ _ | refine blk_drew ?_ | refine blk_alloc ?_ _)); exact BK369.out)) : gb370 ≠ gb369)); clear BK369; clear HB; have BK369 := n0_; have HB := n1_; have BK370 := n2_; have GW370 := n3_; have GE370 := n4_; have NB369_370 := n5_; have NB370_369 := n6_; clear n0_ n1_ n2_ n3_ n4_ n5_ n6_; clear hb hbox hg; have hnb15 := NB370_369.out; have hnc15 := NB369_370.out; have hcz16_0 : w14.cell? ⟨gb370, 0, none⟩ = some (.int .i64 a1_0) := (blk_cell BK370.out 0).trans rfl; have hcz16_1 : w14.cell? ⟨gb370, 1, none⟩ = some (.int .i64 a1_1) := (blk_cell BK370.out 1).trans rfl; have hfz16_0 := blk_frozen BK370.out 0; have hfz16_1 := blk_frozen BK370.out 1; have hcz17_0 : w14.cell? ⟨gb369, 0, none⟩ = some (.int .i64 a0_0) := (blk_cell BK369.out 0).trans rfl; have hcz17_1 : w14.cell? ⟨gb369, 1, none⟩ = some (.slice A0_1 l0_1.length c0_1) := (blk_cell BK369.out 1).trans rfl; have hcz17_2 : w14.cell? ⟨gb369, 2, none⟩ = some (.slice A0_2 l0_2.length c0_2) := (blk_cell BK369.out 2).trans rfl; have hcz17_3 : w14.cell? ⟨gb369, 3, none⟩ = some (.bool a0_3) := (blk_cell BK369.out 3).trans rfl; have hfz17_0 := blk_frozen BK369.out 0; have hfz17_1 := blk_frozen BK369.out 1; have hfz17_2 := blk_frozen BK369.out 2; have hfz17_3 := blk_frozen BK369.out 3; have p372 : 0 ≤ (a1_1 : Int) := of_decide_eq_true (by first | (with_reducible assumption) | assumption); have q372 : a1_1 < (l0_2.length : Int) := of_decide_eq_true (by first | (with_reducible assumption) | assumption); obtain ⟨ad372, e372, hx372_0, hx372_1, hx372_2⟩ := at_T38 HR0_2.out a1_1 p372 q372; cases e372; replace hx372_0 := (HB.out.cell (World.block_lt_of_cell? w _ hx372_0)).trans hx372_0; replace hx372_1 := (HB.out.cell (World.block_lt_of_cell? w _ hx372_1)).trans hx372_1; replace hx372_2 := (HB.out.cell (World.block_lt_of_cell? w _ hx372_2)).trans hx372_2; replace p372 := eq_true p372; replace q372 := eq_true q372))
        go_ret
        exact ⟨by first | rfl | (simp [errW_none, errW_some] <;> rfl) | (simp [*, errW_none, errW_some] <;> rfl), by repeat (first | (with_reducible first | exact HB.out | apply below_alloc | apply pw_below_drewN | apply below_drew1 | refine below_set ?_ GE369.out | refine below_set ?_ GE370.out) | exact HB.out)⟩
      · rw [if_neg c12] at H
        exact absurd H (by simp)
    · rw [if_neg c11] at H
      exact absurd H (by simp)

end Go.Proofs.YtponmfnegdlppaaDoor.P

end
section
/- What a run notes: a block of two tables of 16 times 17 bools and two numbers. -/
namespace Go.Proofs.YtponmfnegdlppaaDoor.P
open Go.RowKit Go.Proofs.YtponmfnegdlppaaDoorW.PrintWords Go.Proofs.YtponmfnegdlppaaDoorW.PrintLast Go.Proofs.YtponmfnegdlppaaDoorW.PrintMore
set_option linter.unusedVariables false
set_option linter.unusedSimpArgs false

def ncell (bg ch : Nat → Bool) (s c : Int) (i : Nat) : Value := if i < 272 then .bool (bg i) else if i < 544 then .bool (ch (i - 272)) else if i = 544 then .int .i64 s else .int .i64 c
def ncells (bg ch : Nat → Bool) (s c : Int) : Array Value := Array.ofFn (n := 546) fun i => ncell bg ch s c i
def upd (f : Nat → Bool) (i : Nat) : Nat → Bool := fun j => if j = i then true else f j
theorem ncells_get (bg ch : Nat → Bool) (s c : Int) (i : Nat) (h : i < 546) : (ncells bg ch s c)[i]? = some (ncell bg ch s c i) := by
  unfold ncells
  rw [Array.getElem?_ofFn, dif_pos h]
theorem ncells_bg (bg ch : Nat → Bool) (s c : Int) (i : Nat) (h : i < 272) : (ncells bg ch s c)[i]? = some (.bool (bg i)) := by
  rw [ncells_get _ _ _ _ _ (by omega)]
  unfold ncell
  rw [if_pos h]
theorem ncells_ch (bg ch : Nat → Bool) (s c : Int) (i : Nat) (h : i < 272) : (ncells bg ch s c)[272 + i]? = some (.bool (ch i)) := by
  rw [ncells_get _ _ _ _ _ (by omega)]
  unfold ncell
  rw [if_neg (by omega), if_pos (by omega), Nat.add_sub_cancel_left]
theorem ncells_s (bg ch : Nat → Bool) (s c : Int) : (ncells bg ch s c)[544]? = some (.int .i64 s) := by
  rw [ncells_get _ _ _ _ _ (by omega)]
  rfl
theorem ncells_c (bg ch : Nat → Bool) (s c : Int) : (ncells bg ch s c)[545]? = some (.int .i64 c) := by
  rw [ncells_get _ _ _ _ _ (by omega)]
  rfl
theorem ncells_set (bg ch bg' ch' : Nat → Bool) (s c s' c' : Int) (i : Nat) (v : Value) (hv : ncell bg' ch' s' c' i = v) (h : ∀ j, j < 546 → j ≠ i → ncell bg' ch' s' c' j = ncell bg ch s c j) :
    (ncells bg ch s c).setIfInBounds i v = ncells bg' ch' s' c' := by
  apply Array.ext_getElem?
  intro j
  rw [Array.getElem?_setIfInBounds]
  by_cases hj : j < 546
  · rw [ncells_get _ _ _ _ _ hj, ncells_get _ _ _ _ _ hj]
    by_cases e : i = j
    · subst e
      rw [if_pos rfl, if_pos (by unfold ncells; rw [Array.size_ofFn]; exact hj), hv]
    · rw [if_neg e, h j hj (fun q => e q.symm)]
  · have z : ∀ (b d : Nat → Bool) (x y : Int), (ncells b d x y)[j]? = none := fun b d x y => Array.getElem?_eq_none (by unfold ncells; rw [Array.size_ofFn]; omega)
    rw [z, z]
    split
    · rw [if_neg (by unfold ncells; rw [Array.size_ofFn]; omega)]
    · rfl
theorem ncells_set_bg (bg ch : Nat → Bool) (s c : Int) (i : Nat) (h : i < 272) : (ncells bg ch s c).setIfInBounds i (.bool true) = ncells (upd bg i) ch s c := by
  refine ncells_set _ _ _ _ _ _ _ _ _ _ ?_ (fun j hj hne => ?_)
  · unfold ncell upd; rw [if_pos h, if_pos rfl]
  · unfold ncell upd; rw [if_neg hne]
theorem ncells_set_ch (bg ch : Nat → Bool) (s c : Int) (i : Nat) (h : i < 272) : (ncells bg ch s c).setIfInBounds (272 + i) (.bool true) = ncells bg (upd ch i) s c := by
  refine ncells_set _ _ _ _ _ _ _ _ _ _ ?_ (fun j hj hne => ?_)
  · unfold ncell upd; rw [if_neg (by omega), if_pos (by omega), if_pos (by omega)]
  · unfold ncell upd
    by_cases h1 : j < 272
    · rw [if_pos h1, if_pos h1]
    · rw [if_neg h1, if_neg h1]
      by_cases h2 : j < 544
      · rw [if_pos h2, if_pos h2, if_neg (by omega)]
      · rw [if_neg h2, if_neg h2]
theorem ncells_set_s (bg ch : Nat → Bool) (s c s' : Int) : (ncells bg ch s c).setIfInBounds 544 (.int .i64 s') = ncells bg ch s' c := by
  refine ncells_set _ _ _ _ _ _ _ _ _ _ rfl (fun j hj hne => ?_)
  unfold ncell
  rw [if_neg hne]
  rw [if_neg hne]
theorem ncells_set_c (bg ch : Nat → Bool) (s c c' : Int) : (ncells bg ch s c).setIfInBounds 545 (.int .i64 c') = ncells bg ch s c' := by
  refine ncells_set _ _ _ _ _ _ _ _ _ _ rfl (fun j hj hne => ?_)
  unfold ncell
  by_cases h1 : j < 272
  · rw [if_pos h1, if_pos h1]
  · rw [if_neg h1, if_neg h1]
    by_cases h2 : j < 544
    · rw [if_pos h2, if_pos h2]
    · rw [if_neg h2, if_neg h2, if_pos (by omega), if_pos (by omega)]
/-- the rows' colours in other words -/
theorem Env.rename {w0 W : World} {B : List Bx} {R : List It} (h : Env w0 B R W) (f : Nat → Nat) (hf : ∀ a b, f a = f b → a = b) (h0 : f 0 = 0) : Env w0 B (R.map (fun r => { r with c := f r.c })) W := by
  obtain ⟨h1, h2, h3, col, hB, hR⟩ := h
  refine ⟨h1, h2, ?_, fun k => f (col k), fun b m => ⟨(hB b m).1, (hB b m).2.1, by dsimp only; rw [(hB b m).2.2, h0]⟩, fun r m => ?_⟩
  · rw [List.map_map]
    have : (List.map ((fun r : It => r.c) ∘ fun r => { r with c := f r.c }) R) = (R.map (·.c)).map f := by rw [List.map_map]; rfl
    rw [this]
    exact List.Pairwise.map f (fun a b hab e => hab (hf a b e)) h3
  · obtain ⟨r0, m0, rfl⟩ := List.mem_map.1 m
    have q := hR r0 m0
    exact ⟨fun e => q.1 (hf _ _ (by rw [h0]; exact e)), Kd.R_mono q.2 (fun k hk => by dsimp only; rw [hk])⟩
/-- two colours change places -/
def swapc (a b : Nat) (x : Nat) : Nat := if x = a then b else if x = b then a else x
theorem swapc_inj (a b : Nat) : ∀ x y, swapc a b x = swapc a b y → x = y := by
  intro x y h
  unfold swapc at h
  repeat' split at h
  all_goals omega
end Go.Proofs.YtponmfnegdlppaaDoor.P

end
section
/- Runs of moves on a new book, in plain lists: what holds behind each move. -/
namespace Go.Proofs.YtponmfnegdlppaaDoor.P
open Go.RowKit Go.Proofs.YtponmfnegdlppaaDoorW.PrintWords Go.Proofs.YtponmfnegdlppaaDoorW.PrintLast Go.Proofs.YtponmfnegdlppaaDoorW.PrintMore
set_option linter.unusedVariables false

/-- a sum over all tasks -/
def sumL (f : S38 → Int) (L : List S38) : Int := (L.map f).sum
theorem sumL_set (f : S38 → Int) (L : List S38) (k : Nat) (h : k < L.length) (x : S38) : sumL f (L.set k x) = sumL f L - f L[k] + f x := by
  induction L generalizing k with
  | nil => cases h
  | cons y L ih =>
    cases k with
    | zero => simp [sumL]; omega
    | succ k =>
      have := ih k (by simpa using h)
      simp only [sumL, List.set_cons_succ, List.map_cons, List.sum_cons, List.getElem_cons_succ] at this ⊢
      omega
/-- how many tasks are charged as often as can be -/
def cntT (t : Int) (l : List S38) : Int := ((l.filter fun s => decide (s.f2 = t)).length : Nat)
theorem cntT_cons (t : Int) (s : S38) (l : List S38) : cntT t (s :: l) = (if s.f2 = t then 1 else 0) + cntT t l := by
  unfold cntT
  by_cases h : s.f2 = t
  · rw [List.filter_cons_of_pos (by simpa using h), if_pos h, List.length_cons]; omega
  · rw [List.filter_cons_of_neg (by simpa using h), if_neg h]; omega
theorem cntT_nonneg (t : Int) (l : List S38) : 0 ≤ cntT t l := Int.natCast_nonneg _
theorem scan_eq (t : Int) (held : Bool) : ∀ (l : List S38) (f : Int), (∀ s ∈ l, goodP t held s = true) → scanP t held l f = some (f + cntT t l)
  | [], f, _ => by simp [scanP, cntT]
  | s :: l, f, h => by
    rw [scanP, if_pos (h s (List.mem_cons_self ..)), scan_eq t held l _ (fun x m => h x (List.mem_cons_of_mem _ m)), cntT_cons]
    by_cases e : s.f2 = t
    · rw [if_pos e, if_pos e, Int.add_assoc]
    · rw [if_neg e, if_neg e, Int.zero_add]
theorem check_iff (t : Int) (l0 l1 : List S38) (fl : Bool) : checkP t l0 l1 fl = 0 ↔ (1 ≤ t ∧ t ≤ 16 ∧ l0.length ≤ 256 ∧ 1 ≤ l1.length ∧ l1.length ≤ 65535 ∧ (∀ s ∈ l0, goodP t false s = true) ∧ (∀ s ∈ l1, goodP t true s = true) ∧
    cntT t l0 + cntT t l1 ≤ 1 ∧ fl = decide (cntT t l0 + cntT t l1 = 1)) := by
  constructor
  · intro h
    obtain ⟨q1, q2, q3, q4, q5, q6, q7, f, g, h0, h1, h2, h3⟩ := check_ok h
    rw [scan_eq t false l0 0 q6] at h0
    have e0 := Option.some.inj h0
    rw [scan_eq t true l1 f q7] at h1
    have e1 := Option.some.inj h1
    have e : cntT t l0 + cntT t l1 = g := by omega
    rw [e]
    exact ⟨q1, q2, q3, q4, q5, q6, q7, by omega, h3⟩
  · rintro ⟨q1, q2, q3, q4, q5, q6, q7, q8, q9⟩
    unfold checkP
    rw [if_neg (by omega), if_neg (by omega), if_neg (by omega), if_neg (by omega), if_neg (by omega)]
    unfold scan0
    rw [scan_eq t false l0 0 q6]
    simp only [scan1]
    rw [scan_eq t true l1 _ q7]
    simp only [finP]
    rw [Int.zero_add, if_neg (by rintro (h | h); omega; exact h q9)]
structure INV (t : Int) (l0 l1 : List S38) (fl : Bool) (m r : Nat) (bg ch : Nat → Bool) (s c : Int) : Prop where
  check : checkP t l0 l1 fl = 0
  n0 : l0.length = m
  n1 : l1.length = r
  begun : ∀ (k : Nat) (h : k < (l0 ++ l1).length) (a : Nat), 1 ≤ a → a ≤ 16 → bg (k * 17 + a) = decide ((a : Int) ≤ ((l0 ++ l1)[k]).f1)
  charged : ∀ (k : Nat) (h : k < (l0 ++ l1).length) (a : Nat), 1 ≤ a → a ≤ 16 → ch (k * 17 + a) = decide ((a : Int) ≤ ((l0 ++ l1)[k]).f2)
  starts : s = sumL S38.f1 (l0 ++ l1)
  charges : c = sumL S38.f2 (l0 ++ l1)
/-- a new book, nothing noted -/
theorem INV.start {t : Int} {m r : Nat} (h1 : 1 ≤ t) (h2 : t ≤ 16) (hm : m ≤ 256) (hr : 1 ≤ r) (hr2 : r ≤ 65535) : INV t (List.replicate m z38) (List.replicate r z38) false m r (fun _ => false) (fun _ => false) 0 0 := by
  have g : ∀ held, goodP t held z38 = true := fun held => by unfold goodP z38; simp; omega
  have c0 : ∀ n, cntT t (List.replicate n z38) = 0 := fun n => by
    induction n with
    | zero => rfl
    | succ n ih => rw [List.replicate_succ, cntT_cons, ih]; unfold z38; rw [if_neg (by show ¬ (0 : Int) = t; omega)]; rfl
  have sum0 : ∀ (f : S38 → Int), f z38 = 0 → ∀ n, sumL f (List.replicate n z38) = 0 := fun f hf n => by
    induction n with
    | zero => rfl
    | succ n ih => unfold sumL at ih ⊢; rw [List.replicate_succ, List.map_cons, List.sum_cons, ih, hf]; rfl
  have app : List.replicate m z38 ++ List.replicate r z38 = List.replicate (m + r) z38 := by rw [List.replicate_append_replicate]
  have el : ∀ (k : Nat) (h : k < (List.replicate m z38 ++ List.replicate r z38).length), (List.replicate m z38 ++ List.replicate r z38)[k] = z38 := fun k h => by simp only [app, List.getElem_replicate]
  refine ⟨(check_iff _ _ _ _).2 ⟨h1, h2, by rw [List.length_replicate]; exact hm, by rw [List.length_replicate]; exact hr, by rw [List.length_replicate]; exact hr2, fun s m => ?_, fun s m => ?_, ?_, ?_⟩, List.length_replicate, List.length_replicate, fun k h a h3 h4 => ?_, fun k h a h3 h4 => ?_, ?_, ?_⟩
  · rw [List.eq_of_mem_replicate m]; exact g _
  · rw [List.eq_of_mem_replicate m]; exact g _
  · rw [c0, c0]; decide
  · rw [c0, c0]; rfl
  · rw [el]; exact (decide_eq_false (by show ¬ (a : Int) ≤ 0; omega)).symm
  · rw [el]; exact (decide_eq_false (by show ¬ (a : Int) ≤ 0; omega)).symm
  · rw [app, sum0 _ rfl]
  · rw [app, sum0 _ rfl]
theorem cntT_set (t : Int) (L : List S38) (k : Nat) (h : k < L.length) (x : S38) : cntT t (L.set k x) = cntT t L - (if (L[k]).f2 = t then 1 else 0) + (if x.f2 = t then 1 else 0) := by
  induction L generalizing k with
  | nil => cases h
  | cons y L ih =>
    cases k with
    | zero =>
      rw [List.set_cons_zero, cntT_cons, cntT_cons, List.getElem_cons_zero]
      omega
    | succ k =>
      have := ih k (by simpa using h)
      rw [List.set_cons_succ, cntT_cons, cntT_cons, this, List.getElem_cons_succ]
      omega
/-- A task's state gives way to another: the book, and what is noted, behind it. i: the task's place among all. -/
theorem INV.put {t : Int} {l0 l1 : List S38} {m r : Nat} {bg ch bg' ch' : Nat → Bool} {s c s' c' : Int} {l0' l1' : List S38} {fl' : Bool} (h : INV t l0 l1 false m r bg ch s c) (i : Nat) (hi : i < (l0 ++ l1).length) (x : S38)
    (hL : l0' ++ l1' = (l0 ++ l1).set i x) (hz : l0'.length = l0.length) (hg0 : ∀ y ∈ l0', goodP t false y = true) (hg1 : ∀ y ∈ l1', goodP t true y = true)
    (hn : ¬ ((l0 ++ l1)[i]).f2 = t) (hf : fl' = decide (x.f2 = t))
    (hb : ∀ (k a : Nat), k < m + r → 1 ≤ a → a ≤ 16 → bg' (k * 17 + a) = if k = i then decide ((a : Int) ≤ x.f1) else bg (k * 17 + a))
    (hc : ∀ (k a : Nat), k < m + r → 1 ≤ a → a ≤ 16 → ch' (k * 17 + a) = if k = i then decide ((a : Int) ≤ x.f2) else ch (k * 17 + a))
    (hs : s' = s - ((l0 ++ l1)[i]).f1 + x.f1) (hd : c' = c - ((l0 ++ l1)[i]).f2 + x.f2) : INV t l0' l1' fl' m r bg' ch' s' c' := by
  obtain ⟨q1, q2, q3, q4, q5, q6, q7, q8, q9⟩ := (check_iff _ _ _ _).1 h.check
  have hlen : (l0' ++ l1').length = (l0 ++ l1).length := by rw [hL, List.length_set]
  have hz1 : l1'.length = l1.length := by rw [List.length_append, List.length_append] at hlen; omega
  have happ : ∀ a b : List S38, cntT t (a ++ b) = cntT t a + cntT t b := fun a b => by unfold cntT; rw [List.filter_append, List.length_append]; omega
  have hz0 : cntT t l0 + cntT t l1 = 0 := by
    have p0 := cntT_nonneg t l0
    have p1 := cntT_nonneg t l1
    have : ¬ cntT t l0 + cntT t l1 = 1 := fun e => by rw [e] at q9; cases q9
    omega
  have hcnt : cntT t l0' + cntT t l1' = if x.f2 = t then 1 else 0 := by
    rw [← happ, hL, cntT_set t _ i hi, happ, hz0, if_neg hn]
    omega
  have hmr : (l0 ++ l1).length = m + r := by rw [List.length_append, h.n0, h.n1]
  refine ⟨(check_iff _ _ _ _).2 ⟨q1, q2, by omega, by omega, by omega, hg0, hg1, ?_, ?_⟩, by rw [hz]; exact h.n0, by rw [hz1]; exact h.n1, fun k hk a h1 h2 => ?_, fun k hk a h1 h2 => ?_, ?_, ?_⟩
  · rw [hcnt]; split <;> omega
  · rw [hcnt, hf]
    by_cases e : x.f2 = t
    · rw [if_pos e, decide_eq_true e]; rfl
    · rw [if_neg e, decide_eq_false e]; rfl
  · rw [hb k a (by omega) h1 h2]
    simp only [hL]
    rw [List.getElem_set]
    by_cases e : k = i
    · rw [if_pos e, if_pos e.symm]
    · rw [if_neg e, if_neg (fun q => e q.symm), h.begun k (by omega) a h1 h2]
  · rw [hc k a (by omega) h1 h2]
    simp only [hL]
    rw [List.getElem_set]
    by_cases e : k = i
    · rw [if_pos e, if_pos e.symm]
    · rw [if_neg e, if_neg (fun q => e q.symm), h.charged k (by omega) a h1 h2]
  · rw [hL, sumL_set _ _ i hi, ← h.starts, hs]
  · rw [hL, sumL_set _ _ i hi, ← h.charges, hd]
end Go.Proofs.YtponmfnegdlppaaDoor.P

end
section
/- Behind a Begin. -/
namespace Go.Proofs.YtponmfnegdlppaaDoor.P
open Go.RowKit Go.Proofs.YtponmfnegdlppaaDoorW.PrintWords Go.Proofs.YtponmfnegdlppaaDoorW.PrintLast Go.Proofs.YtponmfnegdlppaaDoorW.PrintMore
set_option linter.unusedVariables false

/-- a task's place among all -/
def place (m : Nat) (k b : Int) : Nat := if k = 0 then b.toNat else m + b.toNat
theorem upd_eq (f : Nat → Bool) (i a k j : Nat) (ha : a ≤ 16) (hj : j ≤ 16) (v : S38 → Int) : upd f (i * 17 + a) (k * 17 + j) = if k = i then (if j = a then true else f (k * 17 + j)) else f (k * 17 + j) := by
  unfold upd
  by_cases h : k = i
  · subst h
    rw [if_pos rfl]
    by_cases h2 : j = a
    · rw [if_pos (by omega), if_pos h2]
    · rw [if_neg (by omega), if_neg h2]
  · rw [if_neg h, if_neg (by omega)]
/-- the task's state in the list of all -/
theorem place_get {t : Int} {l0 l1 : List S38} {m : Nat} {k b : Int} (hm : l0.length = m) (h : (k = 0 ∧ ∃ n : Nat, b = n ∧ n < l0.length) ∨ (k = 1 ∧ ∃ n : Nat, b = n ∧ n < l1.length)) :
    ∃ hi : place m k b < (l0 ++ l1).length, (l0 ++ l1)[place m k b] = stP l0 l1 k b := by
  rcases h with ⟨rfl, n, rfl, hn⟩ | ⟨rfl, n, rfl, hn⟩
  · have e : place m 0 (n : Int) = n := by unfold place; rw [if_pos rfl, Int.toNat_natCast]
    have hi : n < (l0 ++ l1).length := by rw [List.length_append]; omega
    refine ⟨by rw [e]; exact hi, ?_⟩
    simp only [e]
    rw [List.getElem_append_left hn]
    unfold stP
    rw [if_pos rfl, rd38 l0 n hn]
  · have e : place m 1 (n : Int) = m + n := by unfold place; rw [if_neg (by decide), Int.toNat_natCast]
    have hi : m + n < (l0 ++ l1).length := by rw [List.length_append]; omega
    refine ⟨by rw [e]; exact hi, ?_⟩
    simp only [e]
    rw [List.getElem_append_right (by omega)]
    unfold stP
    rw [if_neg (by decide), rd38 l1 n hn]
    congr 1
    omega
/-- two lists laid together, one of them changed at a task's place -/
theorem place_set {l0 l1 : List S38} {m : Nat} {k b : Int} (hm : l0.length = m) (h : (k = 0 ∧ ∃ n : Nat, b = n ∧ n < l0.length) ∨ (k = 1 ∧ ∃ n : Nat, b = n ∧ n < l1.length)) (x : S38) :
    (if k = 0 then l0.set b.toNat x else l0) ++ (if k = 0 then l1 else l1.set b.toNat x) = (l0 ++ l1).set (place m k b) x := by
  rcases h with ⟨rfl, n, rfl, hn⟩ | ⟨rfl, n, rfl, hn⟩
  · unfold place
    rw [if_pos rfl, if_pos rfl, if_pos rfl, Int.toNat_natCast, List.set_append_left _ _ hn]
  · unfold place
    rw [if_neg (by decide), if_neg (by decide), if_neg (by decide), Int.toNat_natCast, List.set_append_right _ _ (by omega), ← hm, Nat.add_sub_cancel_left]
theorem mem_set_good {t : Int} {held : Bool} {l : List S38} {n : Nat} {x : S38} (h : ∀ y ∈ l, goodP t held y = true) (hx : goodP t held x = true) : ∀ y ∈ l.set n x, goodP t held y = true := by
  intro y m
  rcases List.mem_or_eq_of_mem_set m with m | rfl
  · exact h y m
  · exact hx
/-- what a Begin that goes well is -/
theorem begin_form {t : Int} {l0 l1 : List S38} {fl : Bool} {k b t' : Int} {l0' l1' : List S38} {fl' : Bool} {a : Int} {fr : Bool} (hb : beginP t l0 l1 fl k b = (t', l0', l1', fl', a, fr, 0)) :
    knownP t l0 l1 fl [⟨k, b⟩] = 0 ∧ fl = false ∧ t' = t ∧ fl' = false ∧ ((stP l0 l1 k b).f0 = 0 ∧ fr = true ∧ a = (stP l0 l1 k b).f1 + 1 ∨ (stP l0 l1 k b).f0 = 2 ∧ fr = false ∧ a = (stP l0 l1 k b).f1) ∧
    l0' = (if k = 0 then l0.set b.toNat ⟨1, a, (stP l0 l1 k b).f2⟩ else l0) ∧ l1' = (if k = 0 then l1 else l1.set b.toNat ⟨1, a, (stP l0 l1 k b).f2⟩) := by
  unfold beginP at hb
  by_cases hk : knownP t l0 l1 fl [⟨k, b⟩] = 0
  · rw [if_pos hk] at hb
    by_cases h1 : fl = true ∨ ((stP l0 l1 k b).f0 ≠ 0 ∧ (stP l0 l1 k b).f0 ≠ 2) ∨ (k = 1 ∧ allP l0 = false)
    · rw [if_pos h1] at hb
      simp only [Prod.mk.injEq] at hb
      exact absurd hb.2.2.2.2.2.2 (by decide)
    · rw [if_neg h1] at hb
      have hf : fl = false := by cases fl with | false => rfl | true => exact absurd (.inl rfl) h1
      refine ⟨hk, hf, ?_⟩
      by_cases h0 : (stP l0 l1 k b).f0 = 0
      · rw [if_pos h0] at hb
        unfold beginS at hb
        by_cases hz : k = 0
        · rw [if_pos hz] at hb
          simp only [Prod.mk.injEq] at hb
          obtain ⟨rfl, rfl, rfl, rfl, rfl, rfl, _⟩ := hb
          exact ⟨rfl, rfl, .inl ⟨h0, rfl, rfl⟩, by rw [if_pos hz], by rw [if_pos hz]⟩
        · rw [if_neg hz] at hb
          simp only [Prod.mk.injEq] at hb
          obtain ⟨rfl, rfl, rfl, rfl, rfl, rfl, _⟩ := hb
          exact ⟨rfl, rfl, .inl ⟨h0, rfl, rfl⟩, by rw [if_neg hz], by rw [if_neg hz]⟩
      · have h2 : (stP l0 l1 k b).f0 = 2 := by
          by_cases q : (stP l0 l1 k b).f0 = 2
          · exact q
          · exact absurd (.inr (.inl ⟨h0, q⟩)) h1
        rw [if_neg h0] at hb
        unfold beginS at hb
        by_cases hz : k = 0
        · rw [if_pos hz] at hb
          simp only [Prod.mk.injEq] at hb
          obtain ⟨rfl, rfl, rfl, rfl, rfl, rfl, _⟩ := hb
          exact ⟨rfl, rfl, .inr ⟨h2, rfl, rfl⟩, by rw [if_pos hz], by rw [if_pos hz]⟩
        · rw [if_neg hz] at hb
          simp only [Prod.mk.injEq] at hb
          obtain ⟨rfl, rfl, rfl, rfl, rfl, rfl, _⟩ := hb
          exact ⟨rfl, rfl, .inr ⟨h2, rfl, rfl⟩, by rw [if_neg hz], by rw [if_neg hz]⟩
  · rw [if_neg hk] at hb
    simp only [Prod.mk.injEq] at hb
    exact absurd hb.2.2.2.2.2.2 hk
end Go.Proofs.YtponmfnegdlppaaDoor.P

end
section
/- Behind any move: what the notes want, and what holds. -/
namespace Go.Proofs.YtponmfnegdlppaaDoor.P
open Go.RowKit Go.Proofs.YtponmfnegdlppaaDoorW.PrintWords Go.Proofs.YtponmfnegdlppaaDoorW.PrintLast Go.Proofs.YtponmfnegdlppaaDoorW.PrintMore
set_option linter.unusedVariables false

theorem cntT_zero {t : Int} {l : List S38} (h : cntT t l = 0) : ∀ y ∈ l, y.f2 ≠ t := by
  intro y m e
  unfold cntT at h
  have : 0 < (l.filter fun s => decide (s.f2 = t)).length := List.length_pos_of_mem (List.mem_filter.2 ⟨m, decide_eq_true e⟩)
  omega
theorem goodP_of {t : Int} {held : Bool} {s : S38} (h1 : s.f0 = 0 ∨ s.f0 = 1 ∨ s.f0 = 2 ∧ held = true ∨ s.f0 = 3) (h3 : s.f0 = 0 → s.f1 = s.f2) (h4 : s.f0 ≠ 0 → s.f1 = s.f2 + 1) (h5 : 0 ≤ s.f2) (h6 : s.f2 ≤ t) (h7 : s.f2 = t → s.f0 = 0) : goodP t held s = true := by
  unfold goodP
  simp only [Bool.and_eq_true, Bool.or_eq_true, Bool.not_eq_true', decide_eq_false_iff_not, decide_eq_true_eq]
  refine ⟨by omega, by omega, ?_, by omega, by omega, ?_, ?_⟩
  · rcases h1 with h | h | h | h
    · exact .inr (by omega)
    · exact .inr (by omega)
    · exact .inl h.2
    · exact .inr (by omega)
  · by_cases e : s.f0 = 0
    · rw [if_pos e, h3 e]; omega
    · rw [if_neg e]; exact h4 e
  · by_cases e : s.f2 = t
    · exact .inr (h7 e)
    · exact .inl e
/-- what is known of a task of a book that has not failed -/
theorem INV.task {t : Int} {l0 l1 : List S38} {m r : Nat} {bg ch : Nat → Bool} {s c k b : Int} (h : INV t l0 l1 false m r bg ch s c) (hT : (k = 0 ∧ ∃ n : Nat, b = n ∧ n < l0.length) ∨ (k = 1 ∧ ∃ n : Nat, b = n ∧ n < l1.length)) :
    ∃ x, x = stP l0 l1 k b ∧ (x.f0 = 0 ∨ x.f0 = 1 ∨ (x.f0 = 2 ∧ k ≠ 0) ∨ x.f0 = 3) ∧ (x.f0 = 0 → x.f1 = x.f2) ∧ (x.f0 ≠ 0 → x.f1 = x.f2 + 1) ∧ 0 ≤ x.f2 ∧ x.f2 < t ∧ t ≤ 16 := by
  obtain ⟨q1, q2, q3, q4, q5, q6, q7, q8, q9⟩ := (check_iff _ _ _ _).1 h.check
  have p0 := cntT_nonneg t l0
  have p1 := cntT_nonneg t l1
  have hz : ¬ cntT t l0 + cntT t l1 = 1 := fun e => by rw [e] at q9; cases q9
  refine ⟨_, rfl, ?_⟩
  rcases hT with ⟨rfl, n, rfl, hn⟩ | ⟨rfl, n, rfl, hn⟩
  · unfold stP
    rw [if_pos rfl]
    obtain ⟨g1, g2, g3, g4, g5, g6, g7⟩ := good_state (q6 _ (rd_mem hn))
    have h2 := g2 rfl
    have h3 := cntT_zero (t := t) (l := l0) (by omega) _ (rd_mem hn)
    exact ⟨by omega, g3, g4, g5, by omega, q2⟩
  · unfold stP
    rw [if_neg (by decide)]
    obtain ⟨g1, g2, g3, g4, g5, g6, g7⟩ := good_state (q7 _ (rd_mem hn))
    have h3 := cntT_zero (t := t) (l := l1) (by omega) _ (rd_mem hn)
    exact ⟨by omega, g3, g4, g5, by omega, q2⟩
/-- one task's state gives way -/
theorem INV.move {t : Int} {l0 l1 : List S38} {fl' : Bool} {m r : Nat} {bg ch bg' ch' : Nat → Bool} {s c s' c' k b : Int} (h : INV t l0 l1 false m r bg ch s c) (hT : (k = 0 ∧ ∃ n : Nat, b = n ∧ n < l0.length) ∨ (k = 1 ∧ ∃ n : Nat, b = n ∧ n < l1.length)) (x : S38)
    (hx0 : k = 0 → goodP t false x = true) (hx1 : k ≠ 0 → goodP t true x = true) (hn : (stP l0 l1 k b).f2 ≠ t) (hf : fl' = decide (x.f2 = t))
    (hb : ∀ (k' a : Nat), k' < m + r → 1 ≤ a → a ≤ 16 → bg' (k' * 17 + a) = if k' = place m k b then decide ((a : Int) ≤ x.f1) else bg (k' * 17 + a))
    (hc : ∀ (k' a : Nat), k' < m + r → 1 ≤ a → a ≤ 16 → ch' (k' * 17 + a) = if k' = place m k b then decide ((a : Int) ≤ x.f2) else ch (k' * 17 + a))
    (hs : s' = s - (stP l0 l1 k b).f1 + x.f1) (hd : c' = c - (stP l0 l1 k b).f2 + x.f2) :
    INV t (if k = 0 then l0.set b.toNat x else l0) (if k = 0 then l1 else l1.set b.toNat x) fl' m r bg' ch' s' c' := by
  obtain ⟨hi, hg⟩ := place_get h.n0 hT (t := t)
  obtain ⟨q1, q2, q3, q4, q5, q6, q7, _⟩ := (check_iff _ _ _ _).1 h.check
  refine h.put (place m k b) hi x (place_set h.n0 hT x) ?_ ?_ ?_ (by rw [hg]; exact hn) hf hb hc (by rw [hg]; exact hs) (by rw [hg]; exact hd)
  · by_cases e : k = 0
    · rw [if_pos e, List.length_set]
    · rw [if_neg e]
  · by_cases e : k = 0
    · rw [if_pos e]; exact mem_set_good (t := t) q6 (hx0 e)
    · rw [if_neg e]; exact q6
  · by_cases e : k = 0
    · rw [if_pos e]; exact q7
    · rw [if_neg e]; exact mem_set_good (t := t) q7 (hx1 e)
/-- what is noted of a task, in the place's words -/
theorem INV.noted {t : Int} {l0 l1 : List S38} {fl : Bool} {m r : Nat} {bg ch : Nat → Bool} {s c k b : Int} (h : INV t l0 l1 fl m r bg ch s c) (hT : (k = 0 ∧ ∃ n : Nat, b = n ∧ n < l0.length) ∨ (k = 1 ∧ ∃ n : Nat, b = n ∧ n < l1.length)) :
    ∀ a : Nat, 1 ≤ a → a ≤ 16 → bg (place m k b * 17 + a) = decide ((a : Int) ≤ (stP l0 l1 k b).f1) ∧ ch (place m k b * 17 + a) = decide ((a : Int) ≤ (stP l0 l1 k b).f2) := by
  obtain ⟨hi, hg⟩ := place_get h.n0 hT (t := t)
  intro a h1 h2
  rw [← hg]
  exact ⟨h.begun _ hi a h1 h2, h.charged _ hi a h1 h2⟩
theorem bdec {p q : Prop} [Decidable p] [Decidable q] (h : p ↔ q) : decide p = decide q := by
  by_cases e : p
  · rw [decide_eq_true e, decide_eq_true (h.1 e)]
  · rw [decide_eq_false e, decide_eq_false (fun x => e (h.2 x))]
/-- Behind a Begin that goes well. -/
theorem INV.begin {t : Int} {l0 l1 : List S38} {fl : Bool} {m r : Nat} {bg ch : Nat → Bool} {s c k b t' : Int} {l0' l1' : List S38} {fl' : Bool} {a : Int} {fr : Bool} (h : INV t l0 l1 fl m r bg ch s c) (hb : beginP t l0 l1 fl k b = (t', l0', l1', fl', a, fr, 0)) :
    t' = t ∧ ∃ n : Nat, a = n ∧ 1 ≤ n ∧ n ≤ 16 ∧ bg (place m k b * 17 + n) = (!fr) ∧ (1 < n → bg (place m k b * 17 + (n - 1)) = true) ∧ (fr = true → 1 < n → ch (place m k b * 17 + (n - 1)) = true) ∧
      INV t l0' l1' fl' m r (upd bg (place m k b * 17 + n)) ch (if fr = true then s + 1 else s) c ∧ ∃ x, l0' = (if k = 0 then l0.set b.toNat x else l0) ∧ l1' = (if k = 0 then l1 else l1.set b.toNat x) ∧ x.f1 = a ∧ x.f0 = 1 ∧ (stP l0 l1 k b).f0 ≠ 3 ∧ (stP l0 l1 k b).f0 ≠ 1 ∧ fl' = false := by
  obtain ⟨hk, rfl, rfl, rfl, hcase, e0, e1⟩ := begin_form hb
  obtain ⟨hc, hT⟩ := known_one hk
  obtain ⟨y, hy, g1, g3, g4, g5, g6, g7⟩ := h.task hT
  have hnt := h.noted hT
  rw [← hy] at hcase e0 e1 hnt ⊢
  have hf1 : ∃ n : Nat, a = n ∧ 1 ≤ n ∧ n ≤ 16 := by
    rcases hcase with ⟨z, _, rfl⟩ | ⟨z, _, rfl⟩
    · have := g3 z
      exact ⟨(y.f1 + 1).toNat, by omega, by omega, by omega⟩
    · have := g4 (by omega)
      exact ⟨y.f1.toNat, by omega, by omega, by omega⟩
  obtain ⟨n, rfl, hn1, hn2⟩ := hf1
  refine ⟨rfl, n, rfl, hn1, hn2, ?_, ?_, ?_, ?_, ⟨1, n, y.f2⟩, e0, e1, rfl, rfl, by omega, by omega, rfl⟩
  · rw [(hnt n hn1 hn2).1]
    rcases hcase with ⟨z, rfl, w⟩ | ⟨z, rfl, w⟩
    · exact decide_eq_false (by omega)
    · exact decide_eq_true (by omega)
  · intro h1
    rw [(hnt (n - 1) (by omega) (by omega)).1]
    exact decide_eq_true (by rcases hcase with ⟨z, _, w⟩ | ⟨z, _, w⟩ <;> omega)
  · intro h0 h1
    rw [(hnt (n - 1) (by omega) (by omega)).2]
    rcases hcase with ⟨z, _, w⟩ | ⟨z, w, _⟩
    · have := g3 z; exact decide_eq_true (by omega)
    · rw [h0] at w; cases w
  · have hgd : ∀ held, goodP t' held ⟨1, n, y.f2⟩ = true := fun held => goodP_of (.inr (.inl rfl)) (fun q => absurd q (by show ¬ (1 : Int) = 0; decide)) (fun _ => by
      show (n : Int) = y.f2 + 1
      rcases hcase with ⟨z, _, w⟩ | ⟨z, _, w⟩
      · have := g3 z; omega
      · have := g4 (by omega); omega) g5 (by show y.f2 ≤ t'; omega) (fun q => by have q : y.f2 = t' := q; omega)
    rw [e0, e1]
    refine h.move hT ⟨1, n, y.f2⟩ (fun _ => hgd _) (fun _ => hgd _) (by rw [← hy]; omega) (decide_eq_false (by show ¬ y.f2 = t'; omega)).symm ?_ ?_ ?_ ?_
    · intro k' j hk' h1 h2
      rw [upd_eq _ _ _ _ _ hn2 h2 S38.f1]
      by_cases e : k' = place m k b
      · rw [if_pos e, if_pos e, e]
        by_cases ej : j = n
        · rw [if_pos ej, ej]; exact (decide_eq_true (by show (n : Int) ≤ n; omega)).symm
        · rw [if_neg ej, (hnt j h1 h2).1]
          exact bdec (by show (j : Int) ≤ y.f1 ↔ (j : Int) ≤ n; rcases hcase with ⟨z, _, w⟩ | ⟨z, _, w⟩ <;> omega)
      · rw [if_neg e, if_neg e]
    · intro k' j hk' h1 h2
      by_cases e : k' = place m k b
      · rw [if_pos e, e, (hnt j h1 h2).2]
      · rw [if_neg e]
    · rw [← hy]
      rcases hcase with ⟨z, rfl, w⟩ | ⟨z, rfl, w⟩
      · rw [if_pos rfl]; show s + 1 = s - y.f1 + n; omega
      · rw [if_neg (by decide)]; show s = s - y.f1 + n; omega
    · rw [← hy]; show c = c - y.f2 + y.f2; omega
/-- what an end that goes well is -/
theorem end_form {t : Int} {l0 l1 : List S38} {fl : Bool} {k b t' : Int} {u : S38 → S38} {uf : S38 → Bool} {l0' l1' : List S38} {fl' : Bool} (h : endP t l0 l1 fl k b u uf = (t', l0', l1', fl', 0)) :
    knownP t l0 l1 fl [⟨k, b⟩] = 0 ∧ fl = false ∧ t' = t ∧ (stP l0 l1 k b).f0 = 1 ∧ fl' = uf (stP l0 l1 k b) ∧ l0' = (if k = 0 then l0.set b.toNat (u (stP l0 l1 k b)) else l0) ∧ l1' = (if k = 0 then l1 else l1.set b.toNat (u (stP l0 l1 k b))) := by
  unfold endP at h
  by_cases hk : knownP t l0 l1 fl [⟨k, b⟩] = 0
  · rw [if_pos hk] at h
    by_cases h1 : fl = true ∨ (stP l0 l1 k b).f0 ≠ 1
    · rw [if_pos h1] at h
      simp only [Prod.mk.injEq] at h
      exact absurd h.2.2.2.2 (by decide)
    · rw [if_neg h1] at h
      have hf : fl = false := by cases fl with | false => rfl | true => exact absurd (.inl rfl) h1
      have h1' : (stP l0 l1 k b).f0 = 1 := by
        by_cases q : (stP l0 l1 k b).f0 = 1
        · exact q
        · exact absurd (.inr q) h1
      by_cases hz : k = 0
      · rw [if_pos hz] at h
        simp only [Prod.mk.injEq] at h
        obtain ⟨rfl, rfl, rfl, rfl, _⟩ := h
        exact ⟨hk, hf, rfl, h1', rfl, by rw [if_pos hz], by rw [if_pos hz]⟩
      · rw [if_neg hz] at h
        simp only [Prod.mk.injEq] at h
        obtain ⟨rfl, rfl, rfl, rfl, _⟩ := h
        exact ⟨hk, hf, rfl, h1', rfl, by rw [if_neg hz], by rw [if_neg hz]⟩
  · rw [if_neg hk] at h
    simp only [Prod.mk.injEq] at h
    exact absurd h.2.2.2.2 hk
/-- Behind a running attempt that is done (state 3) or waits (state 2). -/
theorem INV.still {t : Int} {l0 l1 : List S38} {fl : Bool} {m r : Nat} {bg ch : Nat → Bool} {s c k b t' : Int} {v : Int} {l0' l1' : List S38} {fl' : Bool} (h : INV t l0 l1 fl m r bg ch s c) (hv : v = 3 ∨ v = 2 ∧ k ≠ 0) (hb : endP t l0 l1 fl k b (fun s => ⟨v, s.f1, s.f2⟩) (fun _ => false) = (t', l0', l1', fl', 0)) :
    t' = t ∧ fl' = false ∧ INV t l0' l1' fl' m r bg ch s c ∧ ∃ x, l0' = (if k = 0 then l0.set b.toNat x else l0) ∧ l1' = (if k = 0 then l1 else l1.set b.toNat x) ∧ (stP l0 l1 k b).f0 = 1 ∧ x = ⟨v, (stP l0 l1 k b).f1, (stP l0 l1 k b).f2⟩ := by
  obtain ⟨hk, rfl, rfl, h1, rfl, e0, e1⟩ := end_form hb
  obtain ⟨hc, hT⟩ := known_one hk
  obtain ⟨y, hy, g1, g3, g4, g5, g6, g7⟩ := h.task hT
  have hnt := h.noted hT
  rw [← hy] at h1 e0 e1 hnt ⊢
  refine ⟨rfl, rfl, ?_, _, e0, e1, h1, rfl⟩
  have g4' := g4 (by omega)
  have hgd : ∀ held, (v = 3 ∨ v = 2 ∧ held = true) → goodP t' held ⟨v, y.f1, y.f2⟩ = true := fun held hh => goodP_of (by
      rcases hh with hh | hh
      · exact .inr (.inr (.inr hh))
      · exact .inr (.inr (.inl hh))) (fun q => absurd (show v = 0 from q) (by rcases hv with e | e <;> omega)) (fun _ => g4') g5 (Int.le_of_lt g6) (fun q => absurd (show y.f2 = t' from q) (by omega))
  rw [e0, e1]
  refine h.move hT ⟨v, y.f1, y.f2⟩ (fun e => hgd false (.inl (hv.resolve_right (fun q => q.2 e)))) (fun e => hgd true (by rcases hv with q | q; exact .inl q; exact .inr ⟨q.1, rfl⟩)) (by rw [← hy]; omega) (decide_eq_false (by show ¬ y.f2 = t'; omega)).symm ?_ ?_ ?_ ?_
  · intro k' j hk' h1 h2
    by_cases e : k' = place m k b
    · rw [if_pos e, e, (hnt j h1 h2).1]
    · rw [if_neg e]
  · intro k' j hk' h1 h2
    by_cases e : k' = place m k b
    · rw [if_pos e, e, (hnt j h1 h2).2]
    · rw [if_neg e]
  · rw [← hy]; show s = s - y.f1 + y.f1; omega
  · rw [← hy]; show c = c - y.f2 + y.f2; omega
/-- A task in state 1 or 3 is charged. -/
theorem INV.charge {t : Int} {l0 l1 : List S38} {m r : Nat} {bg ch : Nat → Bool} {s c k b : Int} (h : INV t l0 l1 false m r bg ch s c) (hT : (k = 0 ∧ ∃ n : Nat, b = n ∧ n < l0.length) ∨ (k = 1 ∧ ∃ n : Nat, b = n ∧ n < l1.length)) (h1 : (stP l0 l1 k b).f0 = 1 ∨ (stP l0 l1 k b).f0 = 3) :
    ∃ n : Nat, (stP l0 l1 k b).f1 = n ∧ 1 ≤ n ∧ n ≤ 16 ∧ bg (place m k b * 17 + n) = true ∧ ch (place m k b * 17 + n) = false ∧
      INV t (if k = 0 then l0.set b.toNat ⟨0, (stP l0 l1 k b).f1, (stP l0 l1 k b).f2 + 1⟩ else l0) (if k = 0 then l1 else l1.set b.toNat ⟨0, (stP l0 l1 k b).f1, (stP l0 l1 k b).f2 + 1⟩) (decide ((stP l0 l1 k b).f2 + 1 = t)) m r bg (upd ch (place m k b * 17 + n)) s (c + 1) := by
  obtain ⟨y, hy, g1, g3, g4, g5, g6, g7⟩ := h.task hT
  have hnt := h.noted hT
  rw [← hy] at h1 hnt ⊢
  have g4' := g4 (by omega)
  obtain ⟨n, hn, hn1, hn2⟩ : ∃ n : Nat, y.f1 = n ∧ 1 ≤ n ∧ n ≤ 16 := ⟨y.f1.toNat, by omega, by omega, by omega⟩
  refine ⟨n, hn, hn1, hn2, ?_, ?_, ?_⟩
  · rw [(hnt n hn1 hn2).1]; exact decide_eq_true (by omega)
  · rw [(hnt n hn1 hn2).2]; exact decide_eq_false (by omega)
  have hgd : ∀ held, goodP t held ⟨0, y.f1, y.f2 + 1⟩ = true := fun held => goodP_of (.inl rfl) (fun _ => g4') (fun q => absurd rfl q) (by show 0 ≤ y.f2 + 1; omega) (by show y.f2 + 1 ≤ t; omega) (fun _ => rfl)
  refine h.move hT ⟨0, y.f1, y.f2 + 1⟩ (fun _ => hgd _) (fun _ => hgd _) (by rw [← hy]; omega) rfl ?_ ?_ ?_ ?_
  · intro k' j hk' h1 h2
    by_cases e : k' = place m k b
    · rw [if_pos e, e, (hnt j h1 h2).1]
    · rw [if_neg e]
  · intro k' j hk' h1 h2
    rw [upd_eq _ _ _ _ _ hn2 h2 S38.f1]
    by_cases e : k' = place m k b
    · rw [if_pos e, if_pos e, e]
      by_cases ej : j = n
      · rw [if_pos ej, ej]; exact (decide_eq_true (by show (n : Int) ≤ y.f2 + 1; omega)).symm
      · rw [if_neg ej, (hnt j h1 h2).2]
        exact bdec (by show (j : Int) ≤ y.f2 ↔ (j : Int) ≤ y.f2 + 1; omega)
    · rw [if_neg e, if_neg e]
  · rw [← hy]; show s = s - y.f1 + y.f1; omega
  · rw [← hy]; show c + 1 = c - y.f2 + (y.f2 + 1); omega
end Go.Proofs.YtponmfnegdlppaaDoor.P

end
section
/- Numbers out of a range, a task by its place: in plain numbers. -/
namespace Go.Proofs.YtponmfnegdlppaaDoor.P
open Go.RowKit Go.Proofs.YtponmfnegdlppaaDoorW.PrintWords Go.Proofs.YtponmfnegdlppaaDoorW.PrintLast Go.Proofs.YtponmfnegdlppaaDoorW.PrintMore
set_option linter.unusedVariables false

/-- the number that few tells -/
def fewP (n lo hi : Int) : Int := if Int.tmod n (hi - lo + 1) < 0 then lo + (Int.tmod n (hi - lo + 1) + hi - lo + 1) else lo + Int.tmod n (hi - lo + 1)
theorem fewP_in (n lo hi : Int) (h : lo ≤ hi) : lo ≤ fewP n lo hi ∧ fewP n lo hi ≤ hi := by
  unfold fewP
  have h1 : Int.tmod n (hi - lo + 1) < hi - lo + 1 := Int.tmod_lt_of_pos n (by omega)
  have h2 : -(hi - lo + 1) < Int.tmod n (hi - lo + 1) := by
    have := Int.tmod_lt_of_pos (-n) (show 0 < hi - lo + 1 by omega)
    rw [Int.neg_tmod] at this
    omega
  generalize Int.tmod n (hi - lo + 1) = k at h1 h2 ⊢
  split <;> omega
theorem w64 {n : Int} (h1 : -1000000 ≤ n) (h2 : n ≤ 1000000) : wrap64 n = n := by unfold wrap64; omega
theorem few_eq (n lo hi : Int) (h1 : 0 ≤ lo) (h : lo ≤ hi) (h2 : hi ≤ 1000) : winnowlaw19_few.f n lo hi = some (fewP n lo hi) := by
  unfold winnowlaw19_few.f
  rw [w64 (n := hi - lo) (by omega) (by omega), w64 (n := hi - lo + 1) (by omega) (by omega), if_neg (by omega)]
  have g1 : Int.tmod n (hi - lo + 1) < hi - lo + 1 := Int.tmod_lt_of_pos n (by omega)
  have g2 : -(hi - lo + 1) < Int.tmod n (hi - lo + 1) := by
    have := Int.tmod_lt_of_pos (-n) (show 0 < hi - lo + 1 by omega)
    rw [Int.neg_tmod] at this
    omega
  unfold fewP
  generalize Int.tmod n (hi - lo + 1) = k at g1 g2 ⊢
  by_cases e : k < 0
  · rw [if_pos e, if_pos e, w64 (n := k + hi) (by omega) (by omega), w64 (n := k + hi - lo) (by omega) (by omega), w64 (n := k + hi - lo + 1) (by omega) (by omega), w64 (by omega) (by omega)]
  · rw [if_neg e, if_neg e, w64 (by omega) (by omega)]
/-- the task at a place among all -/
def pickK (who : Int) (m r : Nat) : Int := if fewP who 0 ((m : Int) + r - 1) < m then 0 else 1
def pickB (who : Int) (m r : Nat) : Int := if fewP who 0 ((m : Int) + r - 1) < m then fewP who 0 ((m : Int) + r - 1) else fewP who 0 ((m : Int) + r - 1) - m
theorem picked_eq (who : Int) (m r : Nat) (hm : m ≤ 6) (hr : 1 ≤ r) (hr2 : r ≤ 6) : winnowlaw19_picked.f who m r = some (pickK who m r, pickB who m r) := by
  unfold winnowlaw19_picked.f pickK pickB
  rw [w64 (n := (m : Int) + r) (by omega) (by omega), w64 (n := (m : Int) + r - 1) (by omega) (by omega), few_eq _ _ _ (by omega) (by omega) (by omega)]
  have h := fewP_in who 0 ((m : Int) + r - 1) (by omega)
  generalize fewP who 0 ((m : Int) + r - 1) = k at h ⊢
  simp only [Option.bind_some]
  by_cases e : k < (m : Int)
  · rw [if_pos e, if_pos e, if_pos e]
  · rw [if_neg e, if_neg e, if_neg e, w64 (by omega) (by omega)]
theorem pick_in (who : Int) (m r : Nat) (hr : 1 ≤ r) : (pickK who m r = 0 ∧ ∃ n : Nat, pickB who m r = n ∧ n < m) ∨ (pickK who m r = 1 ∧ ∃ n : Nat, pickB who m r = n ∧ n < r) := by
  unfold pickK pickB
  have h := fewP_in who 0 ((m : Int) + r - 1) (by omega)
  generalize fewP who 0 ((m : Int) + r - 1) = k at h ⊢
  by_cases e : k < (m : Int)
  · rw [if_pos e, if_pos e]
    exact .inl ⟨rfl, k.toNat, by omega, by omega⟩
  · rw [if_neg e, if_neg e]
    exact .inr ⟨rfl, (k - m).toNat, by omega, by omega⟩
theorem number_eq (k b : Int) (m r : Nat) (hm : m ≤ 6) (hr2 : r ≤ 6) (h : (k = 0 ∧ ∃ n : Nat, b = n ∧ n < m) ∨ (k = 1 ∧ ∃ n : Nat, b = n ∧ n < r)) : winnowlaw19_number.f k b m = some ((place m k b : Nat) : Int) ∧ place m k b < 12 := by
  unfold winnowlaw19_number.f place
  rcases h with ⟨rfl, n, rfl, hn⟩ | ⟨rfl, n, rfl, hn⟩
  · rw [if_pos rfl, if_pos rfl, Int.toNat_natCast]
    exact ⟨rfl, by omega⟩
  · rw [if_neg (by decide), if_neg (by decide), Int.toNat_natCast, w64 (by omega) (by omega)]
    exact ⟨by congr 1, by omega⟩
theorem attempt_eq (t : Int) (l0 l1 : List S38) (fl : Bool) (k b : Int) (h : (k = 0 ∧ ∃ n : Nat, b = n ∧ n < l0.length) ∨ (k = 1 ∧ ∃ n : Nat, b = n ∧ n < l1.length)) : winnowlaw19_attempt.f t l0 l1 fl k b = some (stP l0 l1 k b).f1 := by
  unfold winnowlaw19_attempt.f stP
  rcases h with ⟨rfl, n, rfl, hn⟩ | ⟨rfl, n, rfl, hn⟩
  · rw [if_pos rfl, if_pos rfl, if_pos (by omega), if_pos (by omega)]
  · rw [if_neg (show ¬ (1 : Int) = 0 by decide), if_neg (show ¬ (1 : Int) = 0 by decide), if_pos (by omega), if_pos (by omega)]
theorem sized_eq (t : Int) (l0 l1 : List S38) (fl : Bool) (m r : Nat) (h0 : l0.length = m) (h1 : l1.length = r) : winnowlaw19_sized.f t l0 l1 fl m r = some true := by
  unfold winnowlaw19_sized.f
  rw [if_pos (by omega), beq_iff_eq.2 (by omega)]
/-- what a move leaves as it was -/
structure Stays (o tk tb : Int) (mt rt : Nat) (fl : Bool) (l0 l1 l0' l1' : List S38) (fl' : Bool) : Prop where
  maps : ∀ (k : Nat) (h : k < l0.length) (h' : k < l0'.length), ¬ (o ≠ 3 ∧ tk = 0 ∧ tb = k ∨ o = 3 ∧ mt = k) → l0'[k] = l0[k]
  done : ∀ (k : Nat) (h : k < l0.length) (h' : k < l0'.length), (l0[k]).f0 = 3 → (l0'[k]).f0 ≠ 3 → o = 3 ∧ (l0'[k]).f2 = (l0[k]).f2 + 1
  reds : ∀ (k : Nat) (h : k < l1.length) (h' : k < l1'.length), ¬ (o ≠ 3 ∧ tk = 1 ∧ tb = k ∨ o = 3 ∧ rt = k) → l1'[k] = l1[k]
  rdone : ∀ (k : Nat) (h : k < l1.length) (h' : k < l1'.length), (l1[k]).f0 = 3 → l1'[k] = l1[k]
  failed : fl = true → l0' = l0 ∧ l1' = l1 ∧ fl' = true
theorem Stays.same (o tk tb : Int) (mt rt : Nat) (fl : Bool) (l0 l1 : List S38) : Stays o tk tb mt rt fl l0 l1 l0 l1 fl :=
  ⟨fun _ _ _ _ => rfl, fun _ _ _ h h' => absurd h h', fun _ _ _ _ => rfl, fun _ _ _ _ => rfl, fun h => ⟨rfl, rfl, h⟩⟩
/-- one task's state, not done, gives way -/
theorem Stays.one {o tk tb : Int} {mt rt : Nat} {l0 l1 : List S38} {fl' : Bool} (ho : o ≠ 3) (hT : (tk = 0 ∧ ∃ n : Nat, tb = n ∧ n < l0.length) ∨ (tk = 1 ∧ ∃ n : Nat, tb = n ∧ n < l1.length)) (x : S38) (hn : (stP l0 l1 tk tb).f0 ≠ 3) :
    Stays o tk tb mt rt false l0 l1 (if tk = 0 then l0.set tb.toNat x else l0) (if tk = 0 then l1 else l1.set tb.toNat x) fl' := by
  rcases hT with ⟨rfl, n, rfl, hn'⟩ | ⟨rfl, n, rfl, hn'⟩
  · simp only [if_pos, Int.toNat_natCast]
    unfold stP at hn
    rw [if_pos rfl, rd38 l0 n hn'] at hn
    refine ⟨fun k h h' hne => ?_, fun k h h' q q' => ?_, fun _ _ _ _ => rfl, fun _ _ _ _ => rfl, fun h => by cases h⟩
    · rw [List.getElem_set_ne (fun e => hne (.inl ⟨ho, rfl, by rw [e]⟩))]
    · by_cases e : n = k
      · subst e; exact absurd q hn
      · rw [List.getElem_set_ne e] at q'; exact absurd q q'
  · simp only [if_neg (show ¬ (1 : Int) = 0 by decide), Int.toNat_natCast]
    unfold stP at hn
    rw [if_neg (by decide), rd38 l1 n hn'] at hn
    refine ⟨fun _ _ _ _ => rfl, fun _ _ _ q q' => absurd q q', fun k h h' hne => ?_, fun k h h' q => ?_, fun h => by cases h⟩
    · rw [List.getElem_set_ne (fun e => hne (.inl ⟨ho, rfl, by rw [e]⟩))]
    · by_cases e : n = k
      · subst e; exact absurd q hn
      · rw [List.getElem_set_ne e]
end Go.Proofs.YtponmfnegdlppaaDoor.P

end
section
/- Behind a Blame; bounds of what is noted. -/
namespace Go.Proofs.YtponmfnegdlppaaDoor.P
open Go.RowKit Go.Proofs.YtponmfnegdlppaaDoorW.PrintWords Go.Proofs.YtponmfnegdlppaaDoorW.PrintLast Go.Proofs.YtponmfnegdlppaaDoorW.PrintMore
set_option linter.unusedVariables false

/-- what a Blame that goes well is -/
theorem blame_form {t : Int} {l0 l1 : List S38} {fl : Bool} {a b c t' : Int} {l0' l1' : List S38} {fl' g : Bool} (h : blameP t l0 l1 fl a b c = (t', l0', l1', fl', g, 0)) :
    ∃ (m n : Nat) (s2 s3 : List S38) (s4 : Bool), a = m ∧ m < l1.length ∧ b = n ∧ n < l0.length ∧ 1 ≤ c ∧ c ≤ (rd_T38 l0 b).f1 ∧ holdP t l0 l1 fl a = (t, s2, s3, s4, 0) ∧ s2 = l0 ∧
      ((rd_T38 l0 b).f0 = 3 ∧ (rd_T38 l0 b).f1 = c ∧ g = true ∧ t' = t ∧ l0' = l0.set b.toNat ⟨0, (rd_T38 l0 b).f1, (rd_T38 l0 b).f2 + 1⟩ ∧ l1' = s3 ∧ fl' = (s4 || decide ((rd_T38 l0 b).f2 + 1 = t)) ∨ g = false ∧ t' = t ∧ l0' = l0 ∧ l1' = s3 ∧ fl' = s4) := by
  unfold blameP at h
  by_cases hk : knownP t l0 l1 fl [⟨1, a⟩, ⟨0, b⟩] = 0
  · rw [if_pos hk] at h
    obtain ⟨_, ⟨m, rfl, hm⟩, n, rfl, hn⟩ := known_two hk
    by_cases h1 : c < 1 ∨ (rd_T38 l0 (n : Int)).f1 < c
    · rw [if_pos h1] at h
      simp only [Prod.mk.injEq] at h
      exact absurd h.2.2.2.2.2 (by decide)
    rw [if_neg h1] at h
    obtain ⟨s1, s2, s3, s4, s5, hh⟩ : ∃ s1 s2 s3 s4 s5, holdP t l0 l1 fl (m : Int) = (s1, s2, s3, s4, s5) := ⟨_, _, _, _, _, rfl⟩
    have hsame := @hold_same t l0 l1 fl (m : Int)
    rw [hh] at h hsame
    simp only at h hsame
    by_cases h5 : s5 = 0
    · rw [if_pos h5] at h
      obtain ⟨rfl, rfl⟩ := hsame h5
      subst h5
      refine ⟨m, n, s2, s3, s4, rfl, hm, rfl, hn, by omega, by omega, hh, rfl, ?_⟩
      unfold chargeP at h
      by_cases hg : (rd_T38 s2 (n : Int)).f0 = 3 ∧ (rd_T38 s2 (n : Int)).f1 = c
      · rw [if_pos hg] at h
        simp only [Prod.mk.injEq] at h
        obtain ⟨rfl, rfl, rfl, rfl, rfl, _⟩ := h
        exact .inl ⟨hg.1, hg.2, rfl, rfl, rfl, rfl, rfl⟩
      · rw [if_neg hg] at h
        simp only [Prod.mk.injEq] at h
        obtain ⟨rfl, rfl, rfl, rfl, rfl, _⟩ := h
        exact .inr ⟨rfl, rfl, rfl, rfl, rfl⟩
    · rw [if_neg h5] at h
      simp only [Prod.mk.injEq] at h
      exact absurd h.2.2.2.2.2 h5
  · rw [if_neg hk] at h
    simp only [Prod.mk.injEq] at h
    exact absurd h.2.2.2.2.2 hk
theorem place0 (m n : Nat) : place m 0 (n : Int) = n := by unfold place; rw [if_pos rfl, Int.toNat_natCast]
/-- Behind a Blame that goes well. -/
theorem INV.blame {t : Int} {l0 l1 : List S38} {fl : Bool} {m r : Nat} {bg ch : Nat → Bool} {s c : Int} {rt mt : Nat} {a t' : Int} {l0' l1' : List S38} {fl' g : Bool} (h : INV t l0 l1 fl m r bg ch s c) (hb : blameP t l0 l1 fl rt mt a = (t', l0', l1', fl', g, 0)) (tk tb : Int) :
    t' = t ∧ Stays 3 tk tb mt rt fl l0 l1 l0' l1' fl' ∧ (g = false → fl' = false ∧ INV t l0' l1' fl' m r bg ch s c) ∧
    (g = true → ∃ n : Nat, a = n ∧ 1 ≤ n ∧ n ≤ 16 ∧ bg (mt * 17 + n) = true ∧ ch (mt * 17 + n) = false ∧ INV t l0' l1' fl' m r bg (upd ch (mt * 17 + n)) s (c + 1)) := by
  obtain ⟨rt', mt', s2, s3, s4, e1, hrt, e2, hmt, ha1, ha2, hh, rfl, hcase⟩ := blame_form hb
  obtain rfl : rt' = rt := by omega
  obtain rfl : mt' = mt := by omega
  unfold holdP at hh
  obtain ⟨_, rfl, hI, x, hx0, hx1, hx2, hx3⟩ := h.still (v := 2) (k := 1) (b := (rt' : Int)) (.inr ⟨rfl, by decide⟩) hh
  obtain ⟨_, hf, _, _, _, _, _⟩ := end_form hh
  subst hf
  rw [if_neg (by decide), Int.toNat_natCast] at hx1
  have hst : stP s2 l1 1 (rt' : Int) = l1[rt'] := by unfold stP; rw [if_neg (by decide), rd38 l1 rt' hrt]
  rw [hst] at hx2
  have hreds : ∀ (k : Nat) (h : k < l1.length) (h' : k < s3.length), ¬ ((3 : Int) ≠ 3 ∧ tk = 1 ∧ tb = k ∨ (3 : Int) = 3 ∧ rt' = k) → s3[k] = l1[k] := fun k h h' hne => by
    subst hx1
    rw [List.getElem_set_ne (fun e => hne (.inr ⟨rfl, e⟩))]
  have hrdone : ∀ (k : Nat) (h : k < l1.length) (h' : k < s3.length), (l1[k]).f0 = 3 → s3[k] = l1[k] := fun k h h' q => by
    subst hx1
    by_cases e : rt' = k
    · subst e; rw [hx2] at q; exact absurd q (by decide)
    · rw [List.getElem_set_ne e]
  have hrd : rd_T38 s2 (mt' : Int) = s2[mt'] := rd38 s2 mt' hmt
  rcases hcase with ⟨h3, h4, rfl, rfl, rfl, rfl, rfl⟩ | ⟨rfl, rfl, rfl, rfl, rfl⟩
  · rw [hrd] at h3 h4 ⊢
    have hch := hI.charge (k := 0) (b := (mt' : Int)) (.inl ⟨rfl, mt', rfl, hmt⟩) (.inr (by unfold stP; rw [if_pos rfl, hrd]; exact h3))
    obtain ⟨n, q1, q2, q3, q4, q5, q6⟩ := hch
    have hs0 : stP s2 l1' 0 (mt' : Int) = s2[mt'] := by unfold stP; rw [if_pos rfl, hrd]
    rw [hs0] at q1 q6
    rw [place0] at q4 q5 q6
    rw [if_pos rfl, if_pos rfl] at q6
    refine ⟨rfl, ⟨fun k h h' hne => ?_, fun k h h' g1 g2 => ?_, hreds, hrdone, fun h => by cases h⟩, (fun h => by cases h), fun _ => ⟨n, by omega, q2, q3, q4, q5, ?_⟩⟩
    · simp only [Int.toNat_natCast]
      rw [List.getElem_set_ne (fun e => hne (.inr ⟨rfl, e⟩))]
    · simp only [Int.toNat_natCast] at g2 ⊢
      by_cases e : mt' = k
      · subst e
        rw [List.getElem_set_self]
        exact ⟨trivial, rfl⟩
      · rw [List.getElem_set_ne e] at g2
        exact absurd g1 g2
    · rw [Bool.false_or]
      exact q6
  · exact ⟨rfl, ⟨fun _ _ _ _ => rfl, fun k h h' g1 g2 => absurd g1 g2, hreds, hrdone, fun h => by cases h⟩, fun _ => ⟨rfl, hI⟩, fun h => by cases h⟩
/-- sums of small numbers -/
theorem sumL_le (f : S38 → Int) (b : Int) (hb : 0 ≤ b) : ∀ (L : List S38), (∀ x ∈ L, 0 ≤ f x ∧ f x ≤ b) → 0 ≤ sumL f L ∧ sumL f L ≤ b * L.length
  | [], _ => by simp [sumL]
  | x :: L, h => by
    have h1 := h x (List.mem_cons_self ..)
    have h2 := sumL_le f b hb L (fun y m => h y (List.mem_cons_of_mem _ m))
    have e : sumL f (x :: L) = f x + sumL f L := by unfold sumL; rw [List.map_cons, List.sum_cons]
    have e2 : b * ((x :: L).length : Int) = b * L.length + b := by rw [List.length_cons]; push_cast; rw [Int.mul_add, Int.mul_one]
    rw [e, e2]
    omega
theorem INV.small {t : Int} {l0 l1 : List S38} {fl : Bool} {m r : Nat} {bg ch : Nat → Bool} {s c : Int} (h : INV t l0 l1 fl m r bg ch s c) (hm : m ≤ 6) (hr : r ≤ 6) : 0 ≤ s ∧ s ≤ 1000 ∧ 0 ≤ c ∧ c ≤ 1000 ∧ s ≤ m + r + c := by
  obtain ⟨q1, q2, q3, q4, q5, q6, q7, q8, q9⟩ := (check_iff _ _ _ _).1 h.check
  have hall : ∀ x ∈ l0 ++ l1, (x.f0 = 0 → x.f1 = x.f2) ∧ (x.f0 ≠ 0 → x.f1 = x.f2 + 1) ∧ 0 ≤ x.f2 ∧ x.f2 ≤ t := fun x mx => by
    rcases List.mem_append.1 mx with mx | mx
    · obtain ⟨g1, g2, g3, g4, g5, g6, g7⟩ := good_state (q6 x mx); exact ⟨g3, g4, g5, g6⟩
    · obtain ⟨g1, g2, g3, g4, g5, g6, g7⟩ := good_state (q7 x mx); exact ⟨g3, g4, g5, g6⟩
  have hlen : (l0 ++ l1).length = m + r := by rw [List.length_append, h.n0, h.n1]
  have h1 := sumL_le S38.f1 17 (by decide) (l0 ++ l1) (fun x mx => by
    have := hall x mx
    by_cases e : x.f0 = 0
    · have := this.1 e; omega
    · have := this.2.1 e; omega)
  have h2 := sumL_le S38.f2 16 (by decide) (l0 ++ l1) (fun x mx => by have := hall x mx; omega)
  have h3 : ∀ L : List S38, (∀ x ∈ L, x.f1 ≤ x.f2 + 1) → sumL S38.f1 L ≤ L.length + sumL S38.f2 L := by
    intro L
    induction L with
    | nil => intro _; simp [sumL]
    | cons x L ih =>
      intro hh
      have a1 := hh x (List.mem_cons_self ..)
      have a2 := ih (fun y my => hh y (List.mem_cons_of_mem _ my))
      simp only [sumL, List.map_cons, List.sum_cons, List.length_cons] at a2 ⊢
      push_cast
      omega
  have h4 := h3 (l0 ++ l1) (fun x mx => by
    have := hall x mx
    by_cases e : x.f0 = 0
    · have := this.1 e; omega
    · have := this.2.1 e; omega)
  rw [← h.starts] at h1 h4
  rw [← h.charges] at h2 h4
  rw [hlen] at h1 h2 h4
  push_cast at h1 h2 h4
  omega
end Go.Proofs.YtponmfnegdlppaaDoor.P

end
section
/- Ready and Over: the program's answers in plain lists. -/
namespace Go.Proofs.YtponmfnegdlppaaDoor.P
open Go.RowKit Go.Proofs.YtponmfnegdlppaaDoorW.PrintWords Go.Proofs.YtponmfnegdlppaaDoorW.PrintLast Go.Proofs.YtponmfnegdlppaaDoorW.PrintMore
set_option linter.unusedVariables false
set_option linter.unusedSimpArgs false

theorem wrap_succA (i : Nat) (h : i ≤ 9000000000000000000) : wrap64 ((i : Int) + 1) = ((i + 1 : Nat) : Int) := by unfold wrap64; omega
def readyM : Nat → List S38 → List S29
  | _, [] => []
  | i, s :: l => if s.f0 = 0 then ⟨0, (i : Int)⟩ :: readyM (i + 1) l else readyM (i + 1) l
def readyR : Nat → List S38 → List S29
  | _, [] => []
  | i, s :: l => if s.f0 = 0 then ⟨1, (i : Int)⟩ :: readyR (i + 1) l else if s.f0 = 2 then ⟨1, (i : Int)⟩ :: readyR (i + 1) l else readyR (i + 1) l
def readyP (t : Int) (l0 l1 : List S38) (fl : Bool) : List S29 :=
  if checkP t l0 l1 fl = 0 then (if fl = true then [] else readyM 0 l0 ++ (if allP l0 = true then readyR 0 l1 else [])) else []
def overP (t : Int) (l0 l1 : List S38) (fl : Bool) : Bool := if checkP t l0 l1 fl = 0 then (fl || allP l1) else false
theorem readyM_len : ∀ (l : List S38) (i : Nat), (readyM i l).length ≤ l.length
  | [], _ => by simp [readyM]
  | s :: l, i => by
    have := readyM_len l (i + 1)
    rw [readyM]
    split <;> (simp only [List.length_cons]; omega)
theorem readyR_len : ∀ (l : List S38) (i : Nat), (readyR i l).length ≤ l.length
  | [], _ => by simp [readyR]
  | s :: l, i => by
    have := readyR_len l (i + 1)
    rw [readyR]
    split
    · simp only [List.length_cons]; omega
    · split <;> (simp only [List.length_cons]; omega)
theorem readyP_len (t : Int) (l0 l1 : List S38) (fl : Bool) : (readyP t l0 l1 fl).length ≤ 70000 := by
  unfold readyP
  by_cases h : checkP t l0 l1 fl = 0
  · obtain ⟨q1, q2, q3, q4, q5, _⟩ := check_ok h
    have a := readyM_len l0 0
    have b := readyR_len l1 0
    rw [if_pos h]
    split
    · simp
    · rw [List.length_append]
      split
      · omega
      · simp; omega
  · rw [if_neg h]; simp
theorem ready1 (l1 : List S38) (hl : l1.length ≤ 65535) : ∀ (d k i : Nat) (acc : List S29), i + d = l1.length → d < k → acc.length ≤ 300 + i → ledger_Ready.l1 k acc l1 (l1.length : Int) (i : Int) = some (acc ++ readyR i (l1.drop i)) := by
  intro d
  induction d with
  | zero =>
    intro k i acc hi hk ha
    obtain ⟨k, rfl⟩ : ∃ m, k = m + 1 := ⟨k - 1, by omega⟩
    rw [ledger_Ready.l1, if_neg (by omega), List.drop_eq_nil_of_le (by omega), readyR, List.append_nil]
  | succ d ih =>
    intro k i acc hi hk ha
    obtain ⟨k, rfl⟩ : ∃ m, k = m + 1 := ⟨k - 1, by omega⟩
    rw [ledger_Ready.l1, if_pos (by omega), if_pos (by omega), if_pos (by omega), drop38 l1 i (by omega), wrap_succA i (by omega), readyR]
    have st : ∀ x : S29, ledger_Ready.l1 k (acc ++ [x]) l1 (l1.length : Int) ((i + 1 : Nat) : Int) = some (acc ++ (x :: readyR (i + 1) (l1.drop (i + 1)))) := fun x => by
      rw [ih k (i + 1) (acc ++ [x]) (by omega) (by omega) (by rw [List.length_append, List.length_singleton]; omega), List.append_assoc]
      rfl
    by_cases h0 : (rd_T38 l1 (i : Int)).f0 = 0
    · rw [if_pos h0, if_pos h0, if_pos (by omega), st]
    · rw [if_neg h0, if_neg h0]
      by_cases h2 : (rd_T38 l1 (i : Int)).f0 = 2
      · rw [if_pos h2, if_pos h2, if_pos (by omega), st]
      · rw [if_neg h2, if_neg h2, ih k (i + 1) acc (by omega) (by omega) (by omega)]
theorem ready0 (t : Int) (l0 l1 : List S38) (fl : Bool) (hl0 : l0.length ≤ 256) (hl : l1.length ≤ 65535) : ∀ (d k i : Nat) (acc : List S29), i + d = l0.length → d + 66000 < k → acc.length ≤ i →
    ledger_Ready.l0 k acc l0 (l0.length : Int) (i : Int) t l0 l1 fl = some (acc ++ (readyM i (l0.drop i) ++ (if allP l0 = true then readyR 0 l1 else []))) := by
  intro d
  induction d with
  | zero =>
    intro k i acc hi hk ha
    obtain ⟨k, rfl⟩ : ∃ m, k = m + 1 := ⟨k - 1, by omega⟩
    have hal := all_loop l0 (by omega) l0.length k 0 (by omega) (by omega)
    rw [List.drop_zero] at hal
    have hal' : ledger_all.f k l0 = some (allP l0) := hal
    rw [ledger_Ready.l0, if_neg (by omega), List.drop_eq_nil_of_le (by omega), readyM, List.nil_append, hal', Option.bind_some]
    by_cases h : allP l0 = true
    · rw [if_pos h, if_pos h]
      have := ready1 l1 hl l1.length k 0 acc (by omega) (by omega) (by omega)
      rw [List.drop_zero] at this
      exact this
    · rw [if_neg h, if_neg h, List.append_nil]
  | succ d ih =>
    intro k i acc hi hk ha
    obtain ⟨k, rfl⟩ : ∃ m, k = m + 1 := ⟨k - 1, by omega⟩
    rw [ledger_Ready.l0, if_pos (by omega), if_pos (by omega), if_pos (by omega), drop38 l0 i (by omega), wrap_succA i (by omega), readyM]
    by_cases h0 : (rd_T38 l0 (i : Int)).f0 = 0
    · rw [if_pos h0, if_pos h0, if_pos (by omega), ih k (i + 1) (acc ++ [(⟨0, (i : Int)⟩ : S29)]) (by omega) (by omega) (by rw [List.length_append, List.length_singleton]; omega), List.append_assoc]
      rfl
    · rw [if_neg h0, if_neg h0, ih k (i + 1) acc (by omega) (by omega) (by omega)]
theorem ready_eq (k : Nat) (t : Int) (l0 l1 : List S38) (fl : Bool) (hk : 70000 < k) : ledger_Ready.f k t l0 l1 fl = some (readyP t l0 l1 fl) := by
  obtain ⟨k, rfl⟩ : ∃ m, k = m + 1 := ⟨k - 1, by omega⟩
  unfold ledger_Ready.f ledger_Check.f readyP
  rw [Option.bind_some]
  by_cases h : checkP t l0 l1 fl = 0
  · obtain ⟨q1, q2, q3, q4, q5, _⟩ := check_ok h
    rw [if_pos h, if_pos h, ledger_Ready.j0]
    by_cases hf : fl = true
    · rw [if_pos hf, if_pos hf]
    · rw [if_neg hf, if_neg hf]
      have := ready0 t l0 l1 fl q3 q5 l0.length k 0 [] (by omega) (by omega) (by simp)
      rw [List.drop_zero, List.nil_append] at this
      exact this
  · rw [if_neg h, if_neg h, ledger_Ready.j0, if_pos rfl]
theorem over_eq (k : Nat) (t : Int) (l0 l1 : List S38) (fl : Bool) (hk : 70000 < k) : ledger_Over.f k t l0 l1 fl = some (overP t l0 l1 fl) := by
  unfold ledger_Over.f ledger_Check.f overP
  rw [Option.bind_some]
  by_cases h : checkP t l0 l1 fl = 0
  · obtain ⟨q1, q2, q3, q4, q5, _⟩ := check_ok h
    have hal := all_loop l1 (by omega) l1.length k 0 (by omega) (by omega)
    rw [List.drop_zero] at hal
    have hal' : ledger_all.f k l1 = some (allP l1) := hal
    rw [if_pos h, if_pos h]
    cases fl
    · rw [if_neg (by decide), hal', Option.bind_some, Bool.false_or]
    · rw [if_pos rfl, Bool.true_or]
  · rw [if_neg h, if_neg h]
end Go.Proofs.YtponmfnegdlppaaDoor.P

end
section
/- A run in which each attempt that is begun ends: one round of it, in plain lists. -/
namespace Go.Proofs.YtponmfnegdlppaaDoor.P
open Go.RowKit Go.Proofs.YtponmfnegdlppaaDoorW.PrintWords Go.Proofs.YtponmfnegdlppaaDoorW.PrintLast Go.Proofs.YtponmfnegdlppaaDoorW.PrintMore
set_option linter.unusedVariables false

def hd (x : S38) : Int := if x.f0 = 2 then 1 else 0
def nd (x : S38) : Int := if x.f0 = 3 then 0 else 1
theorem sumL_app (f : S38 → Int) (a b : List S38) : sumL f (a ++ b) = sumL f a + sumL f b := by unfold sumL; rw [List.map_append, List.sum_append]
abbrev isTask (l0 l1 : List S38) (k b : Int) : Prop := (k = 0 ∧ ∃ n : Nat, b = n ∧ n < l0.length) ∨ (k = 1 ∧ ∃ n : Nat, b = n ∧ n < l1.length)
/-- a task's state gives way, in two lists -/
def put0 (l0 : List S38) (k b : Int) (x : S38) : List S38 := if k = 0 then l0.set b.toNat x else l0
def put1 (l1 : List S38) (k b : Int) (x : S38) : List S38 := if k = 0 then l1 else l1.set b.toNat x
theorem put_sum (f : S38 → Int) {l0 l1 : List S38} {k b : Int} (h : isTask l0 l1 k b) (x : S38) : sumL f (put0 l0 k b x ++ put1 l1 k b x) = sumL f (l0 ++ l1) - f (stP l0 l1 k b) + f x := by
  obtain ⟨hi, hg⟩ := place_get (t := 0) rfl h
  unfold put0 put1
  rw [place_set rfl h x, sumL_set _ _ _ hi, hg]
theorem put_len {l0 l1 : List S38} {k b : Int} (x : S38) : (put0 l0 k b x).length = l0.length ∧ (put1 l1 k b x).length = l1.length := by
  unfold put0 put1
  constructor
  · split
    · rw [List.length_set]
    · rfl
  · split
    · rfl
    · rw [List.length_set]
theorem put_task {l0 l1 : List S38} {k b : Int} (h : isTask l0 l1 k b) (x : S38) (k' b' : Int) (h' : isTask l0 l1 k' b') : isTask (put0 l0 k b x) (put1 l1 k b x) k' b' := by
  obtain ⟨e0, e1⟩ := put_len (l0 := l0) (l1 := l1) (k := k) (b := b) x
  unfold isTask
  rw [e0, e1]
  exact h'
theorem put_get {l0 l1 : List S38} {k b : Int} (h : isTask l0 l1 k b) (x : S38) : stP (put0 l0 k b x) (put1 l1 k b x) k b = x := by
  unfold put0 put1 stP
  rcases h with ⟨rfl, n, rfl, hn⟩ | ⟨rfl, n, rfl, hn⟩
  · rw [if_pos rfl, if_pos rfl, Int.toNat_natCast, rd38 _ n (by rw [List.length_set]; exact hn), List.getElem_set_self]
  · rw [if_neg (show ¬ (1 : Int) = 0 by decide), if_neg (show ¬ (1 : Int) = 0 by decide), Int.toNat_natCast, rd38 _ n (by rw [List.length_set]; exact hn), List.getElem_set_self]
theorem put_mem {l0 l1 : List S38} {k b : Int} (x : S38) (P : S38 → Prop) (h : ∀ y ∈ l0 ++ l1, P y) (hx : P x) : ∀ y ∈ put0 l0 k b x ++ put1 l1 k b x, P y := by
  intro y m
  unfold put0 put1 at m
  rcases List.mem_append.1 m with m | m
  · by_cases e : k = 0
    · rw [if_pos e] at m
      rcases List.mem_or_eq_of_mem_set m with m | rfl
      · exact h y (List.mem_append_left _ m)
      · exact hx
    · rw [if_neg e] at m
      exact h y (List.mem_append_left _ m)
  · by_cases e : k = 0
    · rw [if_pos e] at m
      exact h y (List.mem_append_right _ m)
    · rw [if_neg e] at m
      rcases List.mem_or_eq_of_mem_set m with m | rfl
      · exact h y (List.mem_append_right _ m)
      · exact hx
theorem put_put {l0 l1 : List S38} {k b : Int} (x y : S38) : put0 (put0 l0 k b x) k b y = put0 l0 k b y ∧ put1 (put1 l1 k b x) k b y = put1 l1 k b y := by
  unfold put0 put1
  by_cases e : k = 0
  · simp only [if_pos e, List.set_set, and_self]
  · simp only [if_neg e, List.set_set, and_self]
theorem task_ok {l0 l1 : List S38} {k b : Int} (h : isTask l0 l1 k b) : okT l0.length l1.length ⟨k, b⟩ = true := by
  unfold okT roomT
  rcases h with ⟨rfl, n, rfl, hn⟩ | ⟨rfl, n, rfl, hn⟩
  · simp; omega
  · simp; omega
theorem known_of {t : Int} {l0 l1 : List S38} {fl : Bool} {k b : Int} (hc : checkP t l0 l1 fl = 0) (h : isTask l0 l1 k b) : knownP t l0 l1 fl [⟨k, b⟩] = 0 := by
  unfold knownP
  rw [if_pos hc]
  simp only [scanT]
  rw [if_pos (task_ok h)]
theorem known_of2 {t : Int} {l0 l1 : List S38} {fl : Bool} {k b k' b' : Int} (hc : checkP t l0 l1 fl = 0) (h : isTask l0 l1 k b) (h' : isTask l0 l1 k' b') : knownP t l0 l1 fl [⟨k, b⟩, ⟨k', b'⟩] = 0 := by
  unfold knownP
  rw [if_pos hc]
  simp only [scanT]
  rw [if_pos (task_ok h), if_pos (task_ok h')]
theorem begin_of {t : Int} {l0 l1 : List S38} {k b : Int} (hc : checkP t l0 l1 false = 0) (h : isTask l0 l1 k b) (hs : (stP l0 l1 k b).f0 = 0 ∨ (stP l0 l1 k b).f0 = 2) (ha : k = 1 → allP l0 = true) :
    ∃ (a : Int) (fr : Bool), (((stP l0 l1 k b).f0 = 0 ∧ a = (stP l0 l1 k b).f1 + 1) ∨ ((stP l0 l1 k b).f0 = 2 ∧ a = (stP l0 l1 k b).f1)) ∧
      beginP t l0 l1 false k b = (t, put0 l0 k b ⟨1, a, (stP l0 l1 k b).f2⟩, put1 l1 k b ⟨1, a, (stP l0 l1 k b).f2⟩, false, a, fr, 0) := by
  unfold beginP beginS put0 put1
  rw [if_pos (known_of hc h), if_neg (by
    rintro (q | q | q)
    · cases q
    · omega
    · rw [ha q.1] at q; exact absurd q.2 (by decide))]
  by_cases h0 : (stP l0 l1 k b).f0 = 0
  · refine ⟨_, true, .inl ⟨h0, rfl⟩, ?_⟩
    rw [if_pos h0]
    by_cases e : k = 0
    · simp only [if_pos e]
    · simp only [if_neg e]
  · refine ⟨_, false, .inr ⟨hs.resolve_left h0, rfl⟩, ?_⟩
    rw [if_neg h0]
    by_cases e : k = 0
    · simp only [if_pos e]
    · simp only [if_neg e]
theorem end_of {t : Int} {l0 l1 : List S38} {k b : Int} {u : S38 → S38} {uf : S38 → Bool} (hc : checkP t l0 l1 false = 0) (h : isTask l0 l1 k b) (hs : (stP l0 l1 k b).f0 = 1) :
    endP t l0 l1 false k b u uf = (t, put0 l0 k b (u (stP l0 l1 k b)), put1 l1 k b (u (stP l0 l1 k b)), uf (stP l0 l1 k b), 0) := by
  unfold endP put0 put1
  rw [if_pos (known_of hc h), if_neg (by
    rintro (q | q)
    · cases q
    · exact q hs)]
  by_cases e : k = 0
  · simp only [if_pos e]
  · simp only [if_neg e]
/-- how many reduce tasks are held -/
theorem held_loop (t : Int) (l0 l1 : List S38) (fl : Bool) (hl : l1.length ≤ 1000) : ∀ (d k i : Nat) (n : Int), 0 ≤ n → n ≤ i → i + d = l1.length → d < k → winnowlaw19_held.l0 k n (i : Int) t l0 l1 fl = some (n + sumL hd (l1.drop i)) := by
  intro d
  induction d with
  | zero =>
    intro k i n hn hn2 hi hk
    obtain ⟨k, rfl⟩ : ∃ m, k = m + 1 := ⟨k - 1, by omega⟩
    rw [winnowlaw19_held.l0, if_neg (by omega), List.drop_eq_nil_of_le (by omega)]
    unfold sumL
    rw [List.map_nil, List.sum_nil, Int.add_zero]
  | succ d ih =>
    intro k i n hn hn2 hi hk
    obtain ⟨k, rfl⟩ : ∃ m, k = m + 1 := ⟨k - 1, by omega⟩
    rw [winnowlaw19_held.l0, if_pos (by omega), if_pos (by omega), drop38 l1 i (by omega), show wrap64 ((i : Int) + 1) = ((i + 1 : Nat) : Int) by unfold wrap64; omega]
    have e : ∀ (x : S38) (l : List S38), sumL hd (x :: l) = hd x + sumL hd l := fun x l => by unfold sumL; rw [List.map_cons, List.sum_cons]
    by_cases h : (rd_T38 l1 (i : Int)).f0 = 2
    · rw [if_pos h, show wrap64 (n + 1) = n + 1 by unfold wrap64; omega]
      rw [ih k (i + 1) (n + 1) (by omega) (by omega) (by omega) (by omega), e]
      unfold hd
      rw [if_pos h, Int.add_assoc]
    · rw [if_neg h, ih k (i + 1) n hn (by omega) (by omega) (by omega), e]
      unfold hd
      rw [if_neg h, Int.zero_add]
end Go.Proofs.YtponmfnegdlppaaDoor.P

end
section
/- One round of a run in which each attempt that is begun ends. -/
namespace Go.Proofs.YtponmfnegdlppaaDoor.P
open Go.RowKit Go.Proofs.YtponmfnegdlppaaDoorW.PrintWords Go.Proofs.YtponmfnegdlppaaDoorW.PrintLast Go.Proofs.YtponmfnegdlppaaDoorW.PrintMore
set_option linter.unusedVariables false

/-- between two rounds -/
structure RUN (t : Int) (l0 l1 : List S38) (m r : Nat) (s c i bl : Int) : Prop where
  inv : ∃ bg ch, INV t l0 l1 false m r bg ch s c
  rest : ∀ x ∈ l0 ++ l1, x.f0 ≠ 1
  count : i + sumL hd (l0 ++ l1) = s + bl
  b0 : 0 ≤ bl
  b1 : bl ≤ c
theorem held_eq {t : Int} {l0 l1 : List S38} {fl : Bool} {m r : Nat} {bg ch : Nat → Bool} {s c : Int} (h : INV t l0 l1 fl m r bg ch s c) (hr : r ≤ 6) (k : Nat) (hk : 6 < k) : winnowlaw19_held.f k t l0 l1 fl = some (sumL hd (l0 ++ l1)) := by
  unfold winnowlaw19_held.f
  have hn := h.n1
  have e := held_loop t l0 l1 fl (by omega) l1.length k 0 0 (by omega) (by omega) (by omega) (by omega)
  rw [List.drop_zero, Int.zero_add] at e
  have hz : sumL hd l0 = 0 := by
    obtain ⟨q1, q2, q3, q4, q5, q6, q7, q8, q9⟩ := (check_iff _ _ _ _).1 h.check
    have := sumL_le hd 0 (by omega) l0 (fun x mx => by
      obtain ⟨g1, g2, _⟩ := good_state (q6 x mx)
      unfold hd
      rw [if_neg (g2 rfl)]
      omega)
    omega
  rw [sumL_app, hz, Int.zero_add]
  exact e
/-- a new book that nobody has touched -/
theorem RUN.start {t : Int} {m r : Nat} (h1 : 1 ≤ t) (h2 : t ≤ 16) (hm : m ≤ 256) (hr : 1 ≤ r) (hr2 : r ≤ 65535) : RUN t (List.replicate m z38) (List.replicate r z38) m r 0 0 0 0 := by
  refine ⟨⟨_, _, INV.start h1 h2 hm hr hr2⟩, fun x mx => ?_, ?_, by omega, by omega⟩
  · rcases List.mem_append.1 mx with mx | mx <;> (rw [List.eq_of_mem_replicate mx]; decide)
  · have : ∀ n, sumL hd (List.replicate n z38) = 0 := fun n => by
      induction n with
      | zero => rfl
      | succ n ih => unfold sumL at ih ⊢; rw [List.replicate_succ, List.map_cons, List.sum_cons, ih]; rfl
    rw [sumL_app, this, this]
    rfl
theorem small_of {l0 l1 : List S38} {m r : Nat} (h0 : l0.length = m) (h1 : l1.length = r) (hm : m ≤ 6) (hr : r ≤ 6) : small l0 l1 := ⟨by omega, by omega⟩
set_option maxHeartbeats 1000000 in
theorem RUN.round {t : Int} {l0 l1 : List S38} {m r : Nat} {s c i bl k b : Int} (h : RUN t l0 l1 m r s c i bl) (hm : m ≤ 6) (hr : r ≤ 6) (hT : isTask l0 l1 k b) (hs : (stP l0 l1 k b).f0 = 0 ∨ (stP l0 l1 k b).f0 = 2) (ha : k = 1 → allP l0 = true) (ans : Int) (hans : 0 ≤ ans ∧ ans ≤ 100) :
    ∃ (c0 c1 d0 d1 : List S38) (a : Int) (fr : Bool) (s' c' bl' : Int) (bg' ch' : Nat → Bool), beginP t l0 l1 false k b = (t, c0, c1, false, a, fr, 0) ∧ INV t c0 c1 false m r bg' ch' (if fr = true then s + 1 else s) c ∧
      (∀ K, 10 ≤ K → winnowlaw19_ended.f K t c0 c1 false k b ans t = some (t, d0, d1, false, 0)) ∧ RUN t d0 d1 m r s' c' (i + 1) bl' ∧ bl' = (if sumL hd c1 < sumL hd d1 then bl + 1 else bl) ∧ c ≤ c' ∧
      13 * (200 - c') + sumL nd (d0 ++ d1) < 13 * (200 - c) + sumL nd (l0 ++ l1) := by
  have HT := Aside0.mk hT
  obtain ⟨bg, ch, hI⟩ := h.inv
  obtain ⟨y, hy, g1, g3, g4, g5, g6, g7⟩ := hI.task hT
  obtain ⟨a, fr, hcase, hbg⟩ := begin_of hI.check hT hs ha
  clear hT
  rw [← hy] at hs hcase hbg
  obtain ⟨-, n, hn, hn1, hn2, -, -, -, hJ, -⟩ := hI.begin hbg
  have hsm := hI.small hm hr
  have hlen := put_len (l0 := l0) (l1 := l1) (k := k) (b := b) ⟨1, a, y.f2⟩
  have HT' := Aside0.mk (put_task HT.out ⟨1, a, y.f2⟩ k b HT.out)
  have hst := put_get HT.out ⟨1, a, y.f2⟩
  have hsum := fun f => put_sum f HT.out ⟨1, a, y.f2⟩
  have hpp := fun z => put_put (l0 := l0) (l1 := l1) (k := k) (b := b) ⟨1, a, y.f2⟩ z
  obtain ⟨c0, hc0⟩ : ∃ x, put0 l0 k b ⟨1, a, y.f2⟩ = x := ⟨_, rfl⟩
  obtain ⟨c1, hc1⟩ : ∃ x, put1 l1 k b ⟨1, a, y.f2⟩ = x := ⟨_, rfl⟩
  rw [hc0, hc1] at hbg hJ HT' hst hlen
  simp only [hc0, hc1] at hsum hpp
  have hfr : (if fr = true then s + 1 else s) = s - y.f1 + a := by
    have e := hJ.starts
    rw [hsum, ← hI.starts, ← hy] at e
    exact e
  have hsm' := hJ.small hm hr
  have hnd_le : ∀ x : S38, 0 ≤ nd x ∧ nd x ≤ 1 := fun x => by unfold nd; split <;> omega
  have hndy : nd y = 1 := by unfold nd; rw [if_neg (by omega)]
  have hrest : ∀ z : S38, z.f0 ≠ 1 → ∀ x ∈ put0 l0 k b z ++ put1 l1 k b z, x.f0 ≠ 1 := fun z hz => put_mem z (fun x => x.f0 ≠ 1) h.rest hz
  have hcount := h.count
  have hai : (y.f0 = 0 ∧ a = y.f1 + 1 ∧ hd y = 0) ∨ (y.f0 = 2 ∧ a = y.f1 ∧ hd y = 1) := by
    rcases hcase with ⟨z, e⟩ | ⟨z, e⟩
    · exact .inl ⟨z, e, by unfold hd; rw [if_neg (by omega)]⟩
    · exact .inr ⟨z, e, by unfold hd; rw [if_pos z]⟩
  have hB1 := h.b1
  have hB0 := h.b0
  -- what is held, in the second list alone
  have hh1 : ∀ z : S38, sumL hd (put1 l1 k b z) = sumL hd c1 + (if k = 0 then 0 else hd z) := fun z => by
    rw [← hc1]; unfold put1
    rcases HT.out with ⟨rfl, n', rfl, hn'⟩ | ⟨rfl, n', rfl, hn'⟩
    · rw [if_pos rfl, if_pos rfl, if_pos rfl, Int.add_zero]
    · rw [if_neg (show ¬ (1 : Int) = 0 by decide), if_neg (show ¬ (1 : Int) = 0 by decide), if_neg (show ¬ (1 : Int) = 0 by decide), Int.toNat_natCast, sumL_set _ _ _ hn', sumL_set _ _ _ hn', show hd ⟨1, a, y.f2⟩ = 0 from rfl]
      omega
  refine ⟨c0, c1, ?_⟩
  -- done
  have DONE : ∃ (d0 d1 : List S38) (s' c' bl' : Int), doneP t c0 c1 false k b = (t, d0, d1, false, 0) ∧ RUN t d0 d1 m r s' c' (i + 1) bl' ∧ bl' = (if sumL hd c1 < sumL hd d1 then bl + 1 else bl) ∧ c ≤ c' ∧ 13 * (200 - c') + sumL nd (d0 ++ d1) < 13 * (200 - c) + sumL nd (l0 ++ l1) := by
    have e := end_of (u := fun s => ⟨3, s.f1, s.f2⟩) (uf := fun _ => false) hJ.check HT'.out (by rw [hst])
    obtain ⟨-, -, hK, -⟩ := hJ.still (.inl rfl) e
    rw [hst, (hpp _).1, (hpp _).2] at e hK
    dsimp only at e hK
    refine ⟨_, _, _, _, bl, e, ⟨⟨_, _, hK⟩, hrest _ (by show ¬ (3 : Int) = 1; decide), ?_, hB0, hB1⟩, ?_, Int.le_refl _, ?_⟩
    · rw [put_sum hd HT.out, ← hy, show hd ⟨3, a, y.f2⟩ = 0 from rfl, hfr]
      omega
    · rw [hh1, show hd ⟨3, a, y.f2⟩ = 0 from rfl, ite_self, Int.add_zero, if_neg (Int.lt_irrefl _)]
    · rw [put_sum nd HT.out, ← hy, hndy, show nd ⟨3, a, y.f2⟩ = 0 from rfl]
      omega
  have HDONE := Aside0.mk DONE
  clear DONE
  -- stopped
  have DIED : y.f2 + 1 < t → ∃ (d0 d1 : List S38) (s' c' bl' : Int), diedP t c0 c1 false k b = (t, d0, d1, false, 0) ∧ RUN t d0 d1 m r s' c' (i + 1) bl' ∧ bl' = (if sumL hd c1 < sumL hd d1 then bl + 1 else bl) ∧ c ≤ c' ∧ 13 * (200 - c') + sumL nd (d0 ++ d1) < 13 * (200 - c) + sumL nd (l0 ++ l1) := by
    intro hlt
    have e := end_of (u := fun s => ⟨0, s.f1, s.f2 + 1⟩) (uf := fun s => false || decide (s.f2 + 1 = t)) hJ.check HT'.out (by rw [hst])
    obtain ⟨n', -, -, -, -, -, hK⟩ := hJ.charge HT'.out (.inl (by rw [hst]))
    rw [hst, (hpp _).1, (hpp _).2] at e
    rw [hst] at hK
    have hK' : ∃ bg' ch', INV t (put0 l0 k b ⟨0, a, y.f2 + 1⟩) (put1 l1 k b ⟨0, a, y.f2 + 1⟩) (decide (y.f2 + 1 = t)) m r bg' ch' (if fr = true then s + 1 else s) (c + 1) := by
      rw [← (hpp _).1, ← (hpp _).2]
      exact ⟨_, _, hK⟩
    dsimp only at e
    rw [decide_eq_false (show ¬ y.f2 + 1 = t by omega)] at hK' e
    refine ⟨_, _, _, _, bl, e, ⟨hK', hrest _ (by show ¬ (0 : Int) = 1; decide), ?_, hB0, by omega⟩, ?_, by omega, ?_⟩
    · rw [put_sum hd HT.out, ← hy, show hd ⟨0, a, y.f2 + 1⟩ = 0 from rfl, hfr]
      omega
    · rw [hh1, show hd ⟨0, a, y.f2 + 1⟩ = 0 from rfl, ite_self, Int.add_zero, if_neg (Int.lt_irrefl _)]
    · rw [put_sum nd HT.out, ← hy, hndy, show nd ⟨0, a, y.f2 + 1⟩ = 1 from rfl]
      omega
  have HDIED := Aside0.mk DIED
  clear DIED
  -- a map task is blamed
  have BLAMED : ∀ j : Nat, k ≠ 0 → j < l0.length → (rd_T38 c0 (j : Int)).f2 + 1 < t → ∃ (d0 d1 : List S38) (s' c' bl' : Int), (∃ g, blameP t c0 c1 false b j (rd_T38 c0 (j : Int)).f1 = (t, d0, d1, false, g, 0)) ∧ RUN t d0 d1 m r s' c' (i + 1) bl' ∧ bl' = (if sumL hd c1 < sumL hd d1 then bl + 1 else bl) ∧ c ≤ c' ∧ 13 * (200 - c') + sumL nd (d0 ++ d1) < 13 * (200 - c) + sumL nd (l0 ++ l1) := by
    intro j hk0 hj hlt
    obtain ⟨rt, hk1, hb, hrt⟩ : ∃ rt : Nat, k = 1 ∧ b = rt ∧ rt < l1.length := by
      rcases HT.out with ⟨e, _⟩ | ⟨e, n', e2, hn'⟩
      · exact absurd e hk0
      · exact ⟨n', e, e2, hn'⟩
    have hall := ha hk1
    have hc0l : c0 = l0 := by rw [← hc0]; unfold put0; rw [if_neg hk0]
    obtain ⟨z, hz⟩ : ∃ z, rd_T38 c0 (j : Int) = z := ⟨_, rfl⟩
    have hzj : z = l0[j] := by rw [← hz, hc0l, rd38 l0 j hj]
    have hz3 : z.f0 = 3 := by
      unfold allP at hall
      have := List.all_eq_true.1 hall _ (List.getElem_mem hj)
      rw [hzj]
      exact of_decide_eq_true this
    obtain ⟨q1, q2, q3, q4, q5, q6, q7, q8, q9⟩ := (check_iff _ _ _ _).1 hI.check
    obtain ⟨z1, z2, z3, z4, z5, z6, z7⟩ := good_state (q6 z (by rw [hzj]; exact List.getElem_mem hj))
    have z4' := z4 (by omega)
    have HTj : Aside0 (isTask c0 c1 0 (j : Int)) := ⟨.inl ⟨rfl, j, rfl, by rw [hlen.1]; exact hj⟩⟩
    have e := end_of (u := fun s => ⟨2, s.f1, s.f2⟩) (uf := fun _ => false) hJ.check HT'.out (by rw [hst])
    rw [hst, (hpp _).1, (hpp _).2] at e
    dsimp only at e
    have hold : holdP t c0 c1 false b = (t, put0 l0 k b ⟨2, a, y.f2⟩, put1 l1 k b ⟨2, a, y.f2⟩, false, 0) := by unfold holdP; rw [← hk1]; exact e
    have hp0 : put0 l0 k b ⟨2, a, y.f2⟩ = l0 := by unfold put0; rw [if_neg hk0]
    rw [hz] at hlt ⊢
    have hbl : blameP t c0 c1 false b j z.f1 = (t, l0.set j ⟨0, z.f1, z.f2 + 1⟩, put1 l1 k b ⟨2, a, y.f2⟩, false, true, 0) := by
      unfold blameP chargeP
      rw [if_pos (by have := known_of2 hJ.check HT'.out HTj.out; rw [hk1] at this; exact this), hz, if_neg (by omega), hold, if_pos rfl, if_pos ⟨hz3, rfl⟩]
      dsimp only
      rw [hp0, Int.toNat_natCast, decide_eq_false (show ¬ z.f2 + 1 = t by omega)]
      rfl
    have hbl2 := hbl
    rw [hb] at hbl2
    obtain ⟨-, -, -, hg⟩ := hJ.blame hbl2 0 0
    obtain ⟨n', -, -, -, -, -, hK⟩ := hg rfl
    have hs : ∀ f : S38 → Int, sumL f (l0.set j ⟨0, z.f1, z.f2 + 1⟩ ++ put1 l1 k b ⟨2, a, y.f2⟩) = sumL f (l0 ++ l1) - f y + f ⟨2, a, y.f2⟩ - f z + f ⟨0, z.f1, z.f2 + 1⟩ := fun f => by
      have e1 := put_sum f HT.out ⟨2, a, y.f2⟩
      rw [hp0, ← hy, sumL_app] at e1
      rw [sumL_app, sumL_set _ _ _ hj, ← hzj]
      omega
    have hb' : (b : Int) = (rt : Int) := hb
    refine ⟨_, _, _, _, bl + 1, ⟨_, hbl⟩, ⟨⟨_, _, by rw [hb]; exact hK⟩, ?_, ?_, by omega, by omega⟩, ?_, by omega, ?_⟩
    · intro x mx
      rcases List.mem_append.1 mx with mx | mx
      · rcases List.mem_or_eq_of_mem_set mx with mx | rfl
        · exact h.rest x (List.mem_append_left _ mx)
        · show ¬ (0 : Int) = 1; decide
      · exact hrest ⟨2, a, y.f2⟩ (by show ¬ (2 : Int) = 1; decide) x (List.mem_append_right _ mx)
    · rw [hs, show hd ⟨2, a, y.f2⟩ = 1 from rfl, show hd ⟨0, z.f1, z.f2 + 1⟩ = 0 from rfl, hfr, show hd z = 0 by unfold hd; rw [if_neg (by omega)]]
      omega
    · rw [hh1, if_neg hk0, show hd ⟨2, a, y.f2⟩ = 1 from rfl, if_pos (by omega)]
    · rw [hs, hndy, show nd ⟨2, a, y.f2⟩ = 1 from rfl, show nd ⟨0, z.f1, z.f2 + 1⟩ = 1 from rfl, show nd z = 0 by unfold nd; rw [if_pos hz3]]
      omega
  have HBLAMED := Aside0.mk BLAMED
  clear BLAMED
  have hsmall : small c0 c1 := small_of hJ.n0 hJ.n1 hm hr
  have J0t : ∀ (K : Nat) (d0 d1 : List S38), 1 ≤ K → diedP t c0 c1 false k b = (t, d0, d1, false, 0) → winnowlaw19_ended.j0 K true t c0 c1 false k b = some (t, d0, d1, false, 0) := fun K d0 d1 hK e => by
    obtain ⟨K, rfl⟩ : ∃ q, K = q + 1 := ⟨K - 1, by omega⟩
    rw [winnowlaw19_ended.j0, if_pos rfl]
    unfold ledger_Died.f
    rw [if_pos hsmall, e]
    rfl
  have J0f : ∀ (K : Nat) (d0 d1 : List S38), 1 ≤ K → doneP t c0 c1 false k b = (t, d0, d1, false, 0) → winnowlaw19_ended.j0 K false t c0 c1 false k b = some (t, d0, d1, false, 0) := fun K d0 d1 hK e => by
    obtain ⟨K, rfl⟩ : ∃ q, K = q + 1 := ⟨K - 1, by omega⟩
    rw [winnowlaw19_ended.j0, if_neg (by decide)]
    unfold ledger_Done.f
    rw [if_pos hsmall, e]
    rfl
  have J1t : ∀ (K : Nat) (d0 d1 : List S38), 1 ≤ K → diedP t c0 c1 false k b = (t, d0, d1, false, 0) → winnowlaw19_ended.j1 K ans t true t c0 c1 false k b = some (t, d0, d1, false, 0) := fun K d0 d1 hK e => by
    obtain ⟨K, rfl⟩ : ∃ q, K = q + 1 := ⟨K - 1, by omega⟩
    rw [winnowlaw19_ended.j1, if_pos rfl]
    unfold ledger_Died.f
    rw [if_pos hsmall, e]
    rfl
  have J2f : ∀ (K : Nat) (d0 d1 : List S38), 1 ≤ K → doneP t c0 c1 false k b = (t, d0, d1, false, 0) → winnowlaw19_ended.j2 K ans false t c0 c1 false k b = some (t, d0, d1, false, 0) := fun K d0 d1 hK e => by
    obtain ⟨K, rfl⟩ : ∃ q, K = q + 1 := ⟨K - 1, by omega⟩
    rw [winnowlaw19_ended.j2, if_neg (by decide)]
    unfold ledger_Done.f
    rw [if_pos hsmall, e]
    rfl
  obtain ⟨b', hb', hbl⟩ : ∃ b' : Nat, b = b' ∧ (k = 0 → b' < c0.length) ∧ (k ≠ 0 → b' < c1.length) := by
    rcases HT'.out with ⟨rfl, n', rfl, hn'⟩ | ⟨rfl, n', rfl, hn'⟩
    · exact ⟨n', rfl, fun _ => hn', fun q => absurd rfl q⟩
    · exact ⟨n', rfl, fun q => absurd q (by decide), fun _ => hn'⟩
  have hw2 : wrap64 (y.f2 + 1) = y.f2 + 1 := w64 (by omega) (by omega)
  by_cases hk : k = 0
  · have hrd : rd_T38 c0 b = ⟨1, a, y.f2⟩ := by have q := hst; unfold stP at q; rw [if_pos hk] at q; exact q
    have hx := hbl.1 hk
    by_cases h1 : ans = 1 ∧ y.f2 + 1 < t
    · obtain ⟨d0, d1, s', c', bl', e, R, B, C, M⟩ := HDIED.out h1.2
      refine ⟨d0, d1, a, fr, s', c', bl', _, _, hbg, hJ, fun K hK => ?_, R, B, C, M⟩
      unfold winnowlaw19_ended.f
      rw [if_pos hk, if_pos h1.1, if_pos (by omega), if_pos (by omega), hrd]
      dsimp only
      rw [hw2, decide_eq_true h1.2]
      exact J0t K d0 d1 (by omega) e
    · obtain ⟨d0, d1, s', c', bl', e, R, B, C, M⟩ := HDONE.out
      refine ⟨d0, d1, a, fr, s', c', bl', _, _, hbg, hJ, fun K hK => ?_, R, B, C, M⟩
      unfold winnowlaw19_ended.f
      rw [if_pos hk]
      by_cases h2 : ans = 1
      · rw [if_pos h2, if_pos (by omega), if_pos (by omega), hrd]
        dsimp only
        rw [hw2, decide_eq_false (fun q => h1 ⟨h2, q⟩)]
        exact J0f K d0 d1 (by omega) e
      · rw [if_neg h2]
        exact J0f K d0 d1 (by omega) e
  · have hrd : rd_T38 c1 b = ⟨1, a, y.f2⟩ := by have q := hst; unfold stP at q; rw [if_neg hk] at q; exact q
    have hx := hbl.2 hk
    by_cases h1 : ans = 1 ∧ y.f2 + 1 < t
    · obtain ⟨d0, d1, s', c', bl', e, R, B, C, M⟩ := HDIED.out h1.2
      refine ⟨d0, d1, a, fr, s', c', bl', _, _, hbg, hJ, fun K hK => ?_, R, B, C, M⟩
      unfold winnowlaw19_ended.f
      rw [if_neg hk, if_pos h1.1, if_pos (by omega), if_pos (by omega), hrd]
      dsimp only
      rw [hw2, decide_eq_true h1.2]
      exact J1t K d0 d1 (by omega) e
    · -- the rest, behind the second test
      have hwa : wrap64 (ans - 2) = ans - 2 := w64 (by omega) (by omega)
      have REST : ∃ (d0 d1 : List S38) (s' c' bl' : Int), (∀ K, 5 ≤ K → winnowlaw19_ended.j1 K ans t false t c0 c1 false k b = some (t, d0, d1, false, 0)) ∧ RUN t d0 d1 m r s' c' (i + 1) bl' ∧ bl' = (if sumL hd c1 < sumL hd d1 then bl + 1 else bl) ∧ c ≤ c' ∧ 13 * (200 - c') + sumL nd (d0 ++ d1) < 13 * (200 - c) + sumL nd (l0 ++ l1) := by
        by_cases h3 : ans ≥ 2 ∧ ans - 2 < (c0.length : Int) ∧ (rd_T38 c0 (ans - 2)).f2 + 1 < t
        · obtain ⟨j, hj⟩ : ∃ j : Nat, ans - 2 = j := ⟨(ans - 2).toNat, by omega⟩
          have h32 := h3.2
          rw [hj] at h32
          obtain ⟨d0, d1, s', c', bl', ⟨g, e⟩, R, B, C, M⟩ := HBLAMED.out j hk (by rw [← hlen.1]; omega) h32.2
          have hz : 0 ≤ (rd_T38 c0 (j : Int)).f2 := by
            obtain ⟨q1, q2, q3, q4, q5, q6, q7, q8, q9⟩ := (check_iff _ _ _ _).1 hJ.check
            obtain ⟨z1, z2, z3, z4, z5, z6, z7⟩ := good_state (q6 _ (rd_mem (l := c0) (n := j) (by omega)))
            exact z5
          refine ⟨d0, d1, s', c', bl', fun K hK => ?_, R, B, C, M⟩
          obtain ⟨K, rfl⟩ : ∃ q, K = q + 1 + 1 := ⟨K - 2, by omega⟩
          rw [winnowlaw19_ended.j1, if_neg (by decide), if_pos h3.1, hwa, hj, if_pos h32.1, if_pos (by omega), w64 (n := (rd_T38 c0 (j : Int)).f2 + 1) (by omega) (by omega), decide_eq_true h32.2, winnowlaw19_ended.j2, if_pos rfl, hwa, hj, if_pos (by omega), if_pos h32.1]
          unfold ledger_Blame.f
          rw [if_pos hsmall, e]
          rfl
        · obtain ⟨d0, d1, s', c', bl', e, R, B, C, M⟩ := HDONE.out
          refine ⟨d0, d1, s', c', bl', fun K hK => ?_, R, B, C, M⟩
          obtain ⟨K, rfl⟩ : ∃ q, K = q + 1 := ⟨K - 1, by omega⟩
          rw [winnowlaw19_ended.j1, if_neg (by decide)]
          by_cases h4 : ans ≥ 2
          · rw [if_pos h4, hwa]
            by_cases h5 : ans - 2 < (c0.length : Int)
            · rw [if_pos h5, if_pos (by omega)]
              obtain ⟨j, hj⟩ : ∃ j : Nat, ans - 2 = j := ⟨(ans - 2).toNat, by omega⟩
              rw [hj] at h5 h3 ⊢
              have hz : 0 ≤ (rd_T38 c0 (j : Int)).f2 ∧ (rd_T38 c0 (j : Int)).f2 ≤ 16 := by
                obtain ⟨q1, q2, q3, q4, q5, q6, q7, q8, q9⟩ := (check_iff _ _ _ _).1 hJ.check
                obtain ⟨z1, z2, z3, z4, z5, z6, z7⟩ := good_state (q6 _ (rd_mem (l := c0) (n := j) (by omega)))
                exact ⟨z5, by omega⟩
              rw [w64 (n := (rd_T38 c0 (j : Int)).f2 + 1) (by omega) (by omega), decide_eq_false (fun q => h3 ⟨h4, h5, q⟩)]
              exact J2f K d0 d1 (by omega) e
            · rw [if_neg h5]
              exact J2f K d0 d1 (by omega) e
          · rw [if_neg h4]
            exact J2f K d0 d1 (by omega) e
      obtain ⟨d0, d1, s', c', bl', e, R, B, C, M⟩ := REST
      refine ⟨d0, d1, a, fr, s', c', bl', _, _, hbg, hJ, fun K hK => ?_, R, B, C, M⟩
      unfold winnowlaw19_ended.f
      rw [if_neg hk]
      by_cases h2 : ans = 1
      · rw [if_pos h2, if_pos (by omega), if_pos (by omega), hrd]
        dsimp only
        rw [hw2, decide_eq_false (fun q => h1 ⟨h2, q⟩)]
        exact e K (by omega)
      · rw [if_neg h2]
        exact e K (by omega)
end Go.Proofs.YtponmfnegdlppaaDoor.P

end
