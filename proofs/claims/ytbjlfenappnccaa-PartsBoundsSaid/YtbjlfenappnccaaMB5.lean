/- Several texts laid together (wip/tools/merge2.py): Pf27, PartsPlain, BoundsPlain, SortBPlain. -/
import Derived.Test.YtbjlfenappnccaaMB1
import Derived.Test.YtbjlfenappnccaaMB2
import Derived.Test.YtbjlfenappnccaaMB4
import Derived.Test.YtbjlfenappnccaaMB3
section
-- Written by a program of this session (wip/tools/hprint.py, over the kit's printer), not by hand. Lean checks it.
namespace Go.Proofs.Ytbjlfenappnccaa.P
open Go.RowKit Go.Proofs.YtbjlfenappnccaaW.PrintWords Go.Proofs.YtbjlfenappnccaaW.PrintLast Go.Proofs.YtbjlfenappnccaaW.PrintMore
attribute [local go_sem] max2_int min2_int max_two min_two max_three min_three max_four min_four
set_option linter.unusedVariables false
set_option linter.unusedSimpArgs false

open Go.Proofs.Ytbjlfenappnccaa.Hand
/-! ### winnowref14_Of: function 27 -/
def winnowref14_Of.f (k : Nat) (a0_0 : Int) (a0_1 : Int) (l0_2 : List ByteArray) (a0_3 : Bool) (a0_4 : Int) (a0_5 : Int) (a0_6 : Int) (a0_7 : Int) (a0_8 : Int) (a0_9 : Int) (a1 : ByteArray) : Option (Int) := (winnowref14_Check.f k a0_0 a0_1 l0_2 a0_3 a0_4 a0_5 a0_6 a0_7 a0_8 a0_9).bind fun t135 => (if t135 = 0 then (if (l0_2.length : Int) = 0 then ((winnowref14_Hash.f a1 a0_1).bind fun t136 => (some t136)) else ((winnowref14_Range.f k l0_2 a1).bind fun t137 => (some t137))) else (some 0))
theorem winnowref14_Of.mono : ∀ a0 a1 a2 a3 a4 a5 a6 a7 a8 a9 a10 k, LeO (winnowref14_Of.f k a0 a1 a2 a3 a4 a5 a6 a7 a8 a9 a10) (winnowref14_Of.f (k + 1) a0 a1 a2 a3 a4 a5 a6 a7 a8 a9 a10) := by
  intro a0 a1 a2 a3 a4 a5 a6 a7 a8 a9 a10 k
  unfold winnowref14_Of.f
  repeat' first
      | (with_reducible exact winnowref14_Check.mono _ _ _ _ _ _ _ _ _ _ _)
      | (with_reducible exact winnowref14_Range.mono _ _ _)
      | (with_reducible exact LeO.refl _)
      | (with_reducible exact LeO.none _)
      | (with_reducible refine LeO.ite ?_ ?_)
      | (with_reducible refine LeO.bind ?_ (fun _ => ?_))
      | exact winnowref14_Check.mono _ _ _ _ _ _ _ _ _ _ _
      | exact winnowref14_Range.mono _ _ _
      | exact LeO.none _
      | refine LeO.ite ?_ ?_
      | refine LeO.bind ?_ (fun _ => ?_)
set_option maxHeartbeats 8000000 in
set_option maxRecDepth 100000 in
theorem winnowref14_Of.calls (k : Nat) (a0_0 : Int) (a0_1 : Int) (A0_2 : Option Addr) (c0_2 : Nat) (l0_2 : List ByteArray) (a0_3 : Bool) (a0_4 : Int) (a0_5 : Int) (a0_6 : Int) (a0_7 : Int) (a0_8 : Int) (a0_9 : Int) (a1 : ByteArray) (r : Int) (w : World) (hr0_2 : Kd.C Kd.string w A0_2 l0_2.length l0_2) (hc0_2 : l0_2.length ≤ c0_2) (h : winnowref14_Of.f k a0_0 a0_1 l0_2 a0_3 a0_4 a0_5 a0_6 a0_7 a0_8 a0_9 a1 = some r) :
    Calls Try.prog 27 #[.agg #[.int .i64 a0_0, .int .i64 a0_1, .slice A0_2 l0_2.length c0_2, .bool a0_3, .int .i64 a0_4, .int .i64 a0_5, .int .i64 a0_6, .int .i64 a0_7, .int .i64 a0_8, .int .i64 a0_9], .string a1] w fun e w' => e = .returned (.int .i64 r) ∧ Below w.heap.size w w' := by
  have hu28 := Try.underlying28
  have HR0_2 := Aside0.mk hr0_2
  have HC0_2 := Aside0.mk hc0_2
  clear hr0_2 hc0_2
  have HB := Aside0.mk (Below.refl w.heap.size w)
  have H : ((winnowref14_Check.f k a0_0 a0_1 l0_2 a0_3 a0_4 a0_5 a0_6 a0_7 a0_8 a0_9).bind fun t135 => (if t135 = 0 then (if (l0_2.length : Int) = 0 then ((winnowref14_Hash.f a1 a0_1).bind fun t136 => (some t136)) else ((winnowref14_Range.f k l0_2 a1).bind fun t137 => (some t137))) else (some 0))) = some r := h
  clear h
  replace H := Option.bind_eq_some_iff.mp H
  obtain ⟨t135, A30, H⟩ := H
  replace H : (if t135 = 0 then (if (l0_2.length : Int) = 0 then ((winnowref14_Hash.f a1 a0_1).bind fun t136 => (some t136)) else ((winnowref14_Range.f k l0_2 a1).bind fun t137 => (some t137))) else (some 0)) = some r := H
  have A3 := Aside0.mk A30
  clear A30
  by_cases c4 : t135 = 0
  · rw [if_pos c4] at H
    have c4b0 : (t135 == 0) = true := beq_iff_eq.mpr c4
    have c4b1 : (t135 != 0) = false := bne_eq_false_iff_eq.mpr c4
    clear c4
    by_cases c5 : (l0_2.length : Int) = 0
    · rw [if_pos c5] at H
      have c5b0 : ((l0_2.length : Int) == 0) = true := beq_iff_eq.mpr c5
      have c5b1 : ((l0_2.length : Int) != 0) = false := bne_eq_false_iff_eq.mpr c5
      clear c5
      replace H := Option.bind_eq_some_iff.mp H
      obtain ⟨t136, A60, H⟩ := H
      replace H : (some t136) = some r := H
      have A6 := Aside0.mk A60
      clear A60
      obtain rfl := Option.some.inj H
      go_enter Try.func27, Try.ntmps27
      go_wp2_with (first | ((with_reducible refine gate_dst (N := 2) rfl ?_); refine box_event ?hg (N := 2) ?hd (cs := #[.int .i64 a0_0, .int .i64 a0_1, .slice A0_2 l0_2.length c0_2, .bool a0_3, .int .i64 a0_4, .int .i64 a0_5, .int .i64 a0_6, .int .i64 a0_7, .int .i64 a0_8, .int .i64 a0_9]) (t := 28) ?hr ?_; (case hd => rfl); (case hg => rfl); (case hr => first | (go_simp; done) | (go_simp; rfl)); intro gb134 hg w7 hbox hb; have n0_ := Aside0.mk (below_step (by repeat (first | (with_reducible first | exact HB.out | apply below_alloc | apply pw_below_drewN | apply below_drew1) | exact HB.out)) hb); have n1_ := Aside0.mk (hbox); have n2_ := Aside0.mk ((by rw [hg]; exact (below_size (by repeat (first | (with_reducible first | exact HB.out | apply below_alloc | apply pw_below_drewN | apply below_drew1) | exact HB.out))) : w.heap.size ≤ gb134)); have n3_ := Aside0.mk ((by rw [hg]; exact (below_size (by repeat (first | (with_reducible first | exact HB.out | apply below_alloc | apply pw_below_drewN | apply below_drew1) | exact HB.out))) : w.heap.size ≤ gb134)); clear HB; have HB := n0_; have BK134 := n1_; have GW134 := n2_; have GE134 := n3_; clear n0_ n1_ n2_ n3_; clear hb hbox hg; have hcz8_0 : w7.cell? ⟨gb134, 0, none⟩ = some (.int .i64 a0_0) := (blk_cell BK134.out 0).trans rfl; have hcz8_1 : w7.cell? ⟨gb134, 1, none⟩ = some (.int .i64 a0_1) := (blk_cell BK134.out 1).trans rfl; have hcz8_2 : w7.cell? ⟨gb134, 2, none⟩ = some (.slice A0_2 l0_2.length c0_2) := (blk_cell BK134.out 2).trans rfl; have hcz8_3 : w7.cell? ⟨gb134, 3, none⟩ = some (.bool a0_3) := (blk_cell BK134.out 3).trans rfl; have hcz8_4 : w7.cell? ⟨gb134, 4, none⟩ = some (.int .i64 a0_4) := (blk_cell BK134.out 4).trans rfl; have hcz8_5 : w7.cell? ⟨gb134, 5, none⟩ = some (.int .i64 a0_5) := (blk_cell BK134.out 5).trans rfl; have hcz8_6 : w7.cell? ⟨gb134, 6, none⟩ = some (.int .i64 a0_6) := (blk_cell BK134.out 6).trans rfl; have hcz8_7 : w7.cell? ⟨gb134, 7, none⟩ = some (.int .i64 a0_7) := (blk_cell BK134.out 7).trans rfl; have hcz8_8 : w7.cell? ⟨gb134, 8, none⟩ = some (.int .i64 a0_8) := (blk_cell BK134.out 8).trans rfl; have hcz8_9 : w7.cell? ⟨gb134, 9, none⟩ = some (.int .i64 a0_9) := (blk_cell BK134.out 9).trans rfl; have hfz8_0 := blk_frozen BK134.out 0; have hfz8_1 := blk_frozen BK134.out 1; have hfz8_2 := blk_frozen BK134.out 2; have hfz8_3 := blk_frozen BK134.out 3; have hfz8_4 := blk_frozen BK134.out 4; have hfz8_5 := blk_frozen BK134.out 5; have hfz8_6 := blk_frozen BK134.out 6; have hfz8_7 := blk_frozen BK134.out 7; have hfz8_8 := blk_frozen BK134.out 8; have hfz8_9 := blk_frozen BK134.out 9) | ((with_reducible refine gate_callee (f := 25) rfl ?_); refine goesL_ (some 7) rfl rfl Try.func25 (by kernel_rfl) rfl #[.agg #[.int .i64 a0_0, .int .i64 a0_1, .slice A0_2 l0_2.length c0_2, .bool a0_3, .int .i64 a0_4, .int .i64 a0_5, .int .i64 a0_6, .int .i64 a0_7, .int .i64 a0_8, .int .i64 a0_9]] rfl (by (try simp only [List.map_toArray, List.map_cons, List.map_nil]); first | done | rfl | (simp only [List.length_drop, List.length_take]; rfl)) ?_; (with_reducible refine (winnowref14_Check.calls k a0_0 a0_1 _ _ l0_2 a0_3 a0_4 a0_5 a0_6 a0_7 a0_8 a0_9 t135 _ ?side1 ?side2 A3.out).mono ?_); (case side1 => repeat (first | exact (Kd.C_below HR0_2.out HB.out) | (with_reducible refine Kd.C_alloc ?_ _) | (with_reducible refine Kd.C_drewN ?_ _) | (with_reducible refine Kd.C_drew ?_))); (case side2 => exact HC0_2.out); rintro e w9 ⟨rfl, hb⟩; refine ⟨_, rfl, ?_⟩; have n0_ := Aside0.mk (blk_below (g := gb134) (o := .cells #[.int .i64 a0_0, .int .i64 a0_1, .slice A0_2 l0_2.length c0_2, .bool a0_3, .int .i64 a0_4, .int .i64 a0_5, .int .i64 a0_6, .int .i64 a0_7, .int .i64 a0_8, .int .i64 a0_9] 28 (0, 0)) (by (with_reducible repeat (first | refine blk_drewN ?_ _ | refine blk_drew ?_ | refine blk_alloc ?_ _)); exact BK134.out) hb); have n1_ := Aside0.mk (below_step (by repeat (first | (with_reducible first | exact HB.out | apply below_alloc | apply pw_below_drewN | apply below_drew1 | refine below_set ?_ GE134.out) | exact HB.out)) hb); clear BK134; clear HB; have BK134 := n0_; have HB := n1_; clear n0_ n1_; (try clear hb); (try clear hb2); (try clear hk); (try clear hi); have hcz10_0 : w9.cell? ⟨gb134, 0, none⟩ = some (.int .i64 a0_0) := (blk_cell BK134.out 0).trans rfl; have hcz10_1 : w9.cell? ⟨gb134, 1, none⟩ = some (.int .i64 a0_1) := (blk_cell BK134.out 1).trans rfl; have hcz10_2 : w9.cell? ⟨gb134, 2, none⟩ = some (.slice A0_2 l0_2.length c0_2) := (blk_cell BK134.out 2).trans rfl; have hcz10_3 : w9.cell? ⟨gb134, 3, none⟩ = some (.bool a0_3) := (blk_cell BK134.out 3).trans rfl; have hcz10_4 : w9.cell? ⟨gb134, 4, none⟩ = some (.int .i64 a0_4) := (blk_cell BK134.out 4).trans rfl; have hcz10_5 : w9.cell? ⟨gb134, 5, none⟩ = some (.int .i64 a0_5) := (blk_cell BK134.out 5).trans rfl; have hcz10_6 : w9.cell? ⟨gb134, 6, none⟩ = some (.int .i64 a0_6) := (blk_cell BK134.out 6).trans rfl; have hcz10_7 : w9.cell? ⟨gb134, 7, none⟩ = some (.int .i64 a0_7) := (blk_cell BK134.out 7).trans rfl; have hcz10_8 : w9.cell? ⟨gb134, 8, none⟩ = some (.int .i64 a0_8) := (blk_cell BK134.out 8).trans rfl; have hcz10_9 : w9.cell? ⟨gb134, 9, none⟩ = some (.int .i64 a0_9) := (blk_cell BK134.out 9).trans rfl; have hfz10_0 := blk_frozen BK134.out 0; have hfz10_1 := blk_frozen BK134.out 1; have hfz10_2 := blk_frozen BK134.out 2; have hfz10_3 := blk_frozen BK134.out 3; have hfz10_4 := blk_frozen BK134.out 4; have hfz10_5 := blk_frozen BK134.out 5; have hfz10_6 := blk_frozen BK134.out 6; have hfz10_7 := blk_frozen BK134.out 7; have hfz10_8 := blk_frozen BK134.out 8; have hfz10_9 := blk_frozen BK134.out 9) | ((with_reducible refine gate_callee (f := 9) rfl ?_); refine goesL_ (some 17) rfl rfl Try.func9 (by kernel_rfl) rfl #[.string a1, .int .i64 a0_1] rfl (by (try simp only [List.map_toArray, List.map_cons, List.map_nil]); first | done | rfl | (simp only [List.length_drop, List.length_take]; rfl)) ?_; (with_reducible refine (winnowref14_Hash.calls a1 a0_1 t136 _ A6.out).mono ?_); rintro e w11 ⟨rfl, hb⟩; refine ⟨_, rfl, ?_⟩; have n0_ := Aside0.mk (blk_below (g := gb134) (o := .cells #[.int .i64 a0_0, .int .i64 a0_1, .slice A0_2 l0_2.length c0_2, .bool a0_3, .int .i64 a0_4, .int .i64 a0_5, .int .i64 a0_6, .int .i64 a0_7, .int .i64 a0_8, .int .i64 a0_9] 28 (0, 0)) (by (with_reducible repeat (first | refine blk_drewN ?_ _ | refine blk_drew ?_ | refine blk_alloc ?_ _)); exact BK134.out) hb); have n1_ := Aside0.mk (below_step (by repeat (first | (with_reducible first | exact HB.out | apply below_alloc | apply pw_below_drewN | apply below_drew1 | refine below_set ?_ GE134.out) | exact HB.out)) hb); clear BK134; clear HB; have BK134 := n0_; have HB := n1_; clear n0_ n1_; (try clear hb); (try clear hb2); (try clear hk); (try clear hi)))
      go_ret
      exact ⟨by first | rfl | (simp [errW_none, errW_some] <;> rfl) | (simp [*, errW_none, errW_some] <;> rfl), by repeat (first | (with_reducible first | exact HB.out | apply below_alloc | apply pw_below_drewN | apply below_drew1 | refine below_set ?_ GE134.out) | exact HB.out)⟩
    · rw [if_neg c5] at H
      have c5b0 : ((l0_2.length : Int) == 0) = false := beq_eq_false_iff_ne.mpr c5
      have c5b1 : ((l0_2.length : Int) != 0) = true := bne_iff_ne.mpr c5
      have c5b2 : ¬ (l0_2 = []) := fun h_ => c5 (by rw [h_]; rfl)
      replace H := Option.bind_eq_some_iff.mp H
      obtain ⟨t137, A120, H⟩ := H
      replace H : (some t137) = some r := H
      have A12 := Aside0.mk A120
      clear A120
      obtain rfl := Option.some.inj H
      go_enter Try.func27, Try.ntmps27
      go_wp2_with (first | ((with_reducible refine gate_dst (N := 2) rfl ?_); refine box_event ?hg (N := 2) ?hd (cs := #[.int .i64 a0_0, .int .i64 a0_1, .slice A0_2 l0_2.length c0_2, .bool a0_3, .int .i64 a0_4, .int .i64 a0_5, .int .i64 a0_6, .int .i64 a0_7, .int .i64 a0_8, .int .i64 a0_9]) (t := 28) ?hr ?_; (case hd => rfl); (case hg => rfl); (case hr => first | (go_simp; done) | (go_simp; rfl)); intro gb134 hg w13 hbox hb; have n0_ := Aside0.mk (below_step (by repeat (first | (with_reducible first | exact HB.out | apply below_alloc | apply pw_below_drewN | apply below_drew1) | exact HB.out)) hb); have n1_ := Aside0.mk (hbox); have n2_ := Aside0.mk ((by rw [hg]; exact (below_size (by repeat (first | (with_reducible first | exact HB.out | apply below_alloc | apply pw_below_drewN | apply below_drew1) | exact HB.out))) : w.heap.size ≤ gb134)); have n3_ := Aside0.mk ((by rw [hg]; exact (below_size (by repeat (first | (with_reducible first | exact HB.out | apply below_alloc | apply pw_below_drewN | apply below_drew1) | exact HB.out))) : w.heap.size ≤ gb134)); clear HB; have HB := n0_; have BK134 := n1_; have GW134 := n2_; have GE134 := n3_; clear n0_ n1_ n2_ n3_; clear hb hbox hg; have hcz14_0 : w13.cell? ⟨gb134, 0, none⟩ = some (.int .i64 a0_0) := (blk_cell BK134.out 0).trans rfl; have hcz14_1 : w13.cell? ⟨gb134, 1, none⟩ = some (.int .i64 a0_1) := (blk_cell BK134.out 1).trans rfl; have hcz14_2 : w13.cell? ⟨gb134, 2, none⟩ = some (.slice A0_2 l0_2.length c0_2) := (blk_cell BK134.out 2).trans rfl; have hcz14_3 : w13.cell? ⟨gb134, 3, none⟩ = some (.bool a0_3) := (blk_cell BK134.out 3).trans rfl; have hcz14_4 : w13.cell? ⟨gb134, 4, none⟩ = some (.int .i64 a0_4) := (blk_cell BK134.out 4).trans rfl; have hcz14_5 : w13.cell? ⟨gb134, 5, none⟩ = some (.int .i64 a0_5) := (blk_cell BK134.out 5).trans rfl; have hcz14_6 : w13.cell? ⟨gb134, 6, none⟩ = some (.int .i64 a0_6) := (blk_cell BK134.out 6).trans rfl; have hcz14_7 : w13.cell? ⟨gb134, 7, none⟩ = some (.int .i64 a0_7) := (blk_cell BK134.out 7).trans rfl; have hcz14_8 : w13.cell? ⟨gb134, 8, none⟩ = some (.int .i64 a0_8) := (blk_cell BK134.out 8).trans rfl; have hcz14_9 : w13.cell? ⟨gb134, 9, none⟩ = some (.int .i64 a0_9) := (blk_cell BK134.out 9).trans rfl; have hfz14_0 := blk_frozen BK134.out 0; have hfz14_1 := blk_frozen BK134.out 1; have hfz14_2 := blk_frozen BK134.out 2; have hfz14_3 := blk_frozen BK134.out 3; have hfz14_4 := blk_frozen BK134.out 4; have hfz14_5 := blk_frozen BK134.out 5; have hfz14_6 := blk_frozen BK134.out 6; have hfz14_7 := blk_frozen BK134.out 7; have hfz14_8 := blk_frozen BK134.out 8; have hfz14_9 := blk_frozen BK134.out 9) | ((with_reducible refine gate_callee (f := 25) rfl ?_); refine goesL_ (some 7) rfl rfl Try.func25 (by kernel_rfl) rfl #[.agg #[.int .i64 a0_0, .int .i64 a0_1, .slice A0_2 l0_2.length c0_2, .bool a0_3, .int .i64 a0_4, .int .i64 a0_5, .int .i64 a0_6, .int .i64 a0_7, .int .i64 a0_8, .int .i64 a0_9]] rfl (by (try simp only [List.map_toArray, List.map_cons, List.map_nil]); first | done | rfl | (simp only [List.length_drop, List.length_take]; rfl)) ?_; (with_reducible refine (winnowref14_Check.calls k a0_0 a0_1 _ _ l0_2 a0_3 a0_4 a0_5 a0_6 a0_7 a0_8 a0_9 t135 _ ?side1 ?side2 A3.out).mono ?_); (case side1 => repeat (first | exact (Kd.C_below HR0_2.out HB.out) | (with_reducible refine Kd.C_alloc ?_ _) | (with_reducible refine Kd.C_drewN ?_ _) | (with_reducible refine Kd.C_drew ?_))); (case side2 => exact HC0_2.out); rintro e w15 ⟨rfl, hb⟩; refine ⟨_, rfl, ?_⟩; have n0_ := Aside0.mk (blk_below (g := gb134) (o := .cells #[.int .i64 a0_0, .int .i64 a0_1, .slice A0_2 l0_2.length c0_2, .bool a0_3, .int .i64 a0_4, .int .i64 a0_5, .int .i64 a0_6, .int .i64 a0_7, .int .i64 a0_8, .int .i64 a0_9] 28 (0, 0)) (by (with_reducible repeat (first | refine blk_drewN ?_ _ | refine blk_drew ?_ | refine blk_alloc ?_ _)); exact BK134.out) hb); have n1_ := Aside0.mk (below_step (by repeat (first | (with_reducible first | exact HB.out | apply below_alloc | apply pw_below_drewN | apply below_drew1 | refine below_set ?_ GE134.out) | exact HB.out)) hb); clear BK134; clear HB; have BK134 := n0_; have HB := n1_; clear n0_ n1_; (try clear hb); (try clear hb2); (try clear hk); (try clear hi); have hcz16_0 : w15.cell? ⟨gb134, 0, none⟩ = some (.int .i64 a0_0) := (blk_cell BK134.out 0).trans rfl; have hcz16_1 : w15.cell? ⟨gb134, 1, none⟩ = some (.int .i64 a0_1) := (blk_cell BK134.out 1).trans rfl; have hcz16_2 : w15.cell? ⟨gb134, 2, none⟩ = some (.slice A0_2 l0_2.length c0_2) := (blk_cell BK134.out 2).trans rfl; have hcz16_3 : w15.cell? ⟨gb134, 3, none⟩ = some (.bool a0_3) := (blk_cell BK134.out 3).trans rfl; have hcz16_4 : w15.cell? ⟨gb134, 4, none⟩ = some (.int .i64 a0_4) := (blk_cell BK134.out 4).trans rfl; have hcz16_5 : w15.cell? ⟨gb134, 5, none⟩ = some (.int .i64 a0_5) := (blk_cell BK134.out 5).trans rfl; have hcz16_6 : w15.cell? ⟨gb134, 6, none⟩ = some (.int .i64 a0_6) := (blk_cell BK134.out 6).trans rfl; have hcz16_7 : w15.cell? ⟨gb134, 7, none⟩ = some (.int .i64 a0_7) := (blk_cell BK134.out 7).trans rfl; have hcz16_8 : w15.cell? ⟨gb134, 8, none⟩ = some (.int .i64 a0_8) := (blk_cell BK134.out 8).trans rfl; have hcz16_9 : w15.cell? ⟨gb134, 9, none⟩ = some (.int .i64 a0_9) := (blk_cell BK134.out 9).trans rfl; have hfz16_0 := blk_frozen BK134.out 0; have hfz16_1 := blk_frozen BK134.out 1; have hfz16_2 := blk_frozen BK134.out 2; have hfz16_3 := blk_frozen BK134.out 3; have hfz16_4 := blk_frozen BK134.out 4; have hfz16_5 := blk_frozen BK134.out 5; have hfz16_6 := blk_frozen BK134.out 6; have hfz16_7 := blk_frozen BK134.out 7; have hfz16_8 := blk_frozen BK134.out 8; have hfz16_9 := blk_frozen BK134.out 9) | ((with_reducible refine gate_callee (f := 26) rfl ?_); refine goesL_ (some 21) rfl rfl Try.func26 (by kernel_rfl) rfl #[.slice A0_2 l0_2.length c0_2, .string a1] rfl (by (try simp only [List.map_toArray, List.map_cons, List.map_nil]); first | done | rfl | (simp only [List.length_drop, List.length_take]; rfl)) ?_; (with_reducible refine (winnowref14_Range.calls k _ _ l0_2 a1 t137 _ ?side1 ?side2 A12.out).mono ?_); (case side1 => repeat (first | exact (Kd.C_below HR0_2.out HB.out) | (with_reducible refine Kd.C_alloc ?_ _) | (with_reducible refine Kd.C_drewN ?_ _) | (with_reducible refine Kd.C_drew ?_))); (case side2 => exact HC0_2.out); rintro e w' ⟨rfl, ⟨nd, rfl⟩⟩; refine ⟨_, rfl, ?_⟩))
      go_ret
      exact ⟨by first | rfl | (simp [errW_none, errW_some] <;> rfl) | (simp [*, errW_none, errW_some] <;> rfl), by repeat (first | (with_reducible first | exact HB.out | apply below_alloc | apply pw_below_drewN | apply below_drew1 | refine below_set ?_ GE134.out) | exact HB.out)⟩
  · rw [if_neg c4] at H
    have c4b0 : (t135 == 0) = false := beq_eq_false_iff_ne.mpr c4
    have c4b1 : (t135 != 0) = true := bne_iff_ne.mpr c4
    obtain rfl := Option.some.inj H
    go_enter Try.func27, Try.ntmps27
    go_wp2_with (first | ((with_reducible refine gate_dst (N := 2) rfl ?_); refine box_event ?hg (N := 2) ?hd (cs := #[.int .i64 a0_0, .int .i64 a0_1, .slice A0_2 l0_2.length c0_2, .bool a0_3, .int .i64 a0_4, .int .i64 a0_5, .int .i64 a0_6, .int .i64 a0_7, .int .i64 a0_8, .int .i64 a0_9]) (t := 28) ?hr ?_; (case hd => rfl); (case hg => rfl); (case hr => first | (go_simp; done) | (go_simp; rfl)); intro gb134 hg w17 hbox hb; have n0_ := Aside0.mk (below_step (by repeat (first | (with_reducible first | exact HB.out | apply below_alloc | apply pw_below_drewN | apply below_drew1) | exact HB.out)) hb); have n1_ := Aside0.mk (hbox); have n2_ := Aside0.mk ((by rw [hg]; exact (below_size (by repeat (first | (with_reducible first | exact HB.out | apply below_alloc | apply pw_below_drewN | apply below_drew1) | exact HB.out))) : w.heap.size ≤ gb134)); have n3_ := Aside0.mk ((by rw [hg]; exact (below_size (by repeat (first | (with_reducible first | exact HB.out | apply below_alloc | apply pw_below_drewN | apply below_drew1) | exact HB.out))) : w.heap.size ≤ gb134)); clear HB; have HB := n0_; have BK134 := n1_; have GW134 := n2_; have GE134 := n3_; clear n0_ n1_ n2_ n3_; clear hb hbox hg; have hcz18_0 : w17.cell? ⟨gb134, 0, none⟩ = some (.int .i64 a0_0) := (blk_cell BK134.out 0).trans rfl; have hcz18_1 : w17.cell? ⟨gb134, 1, none⟩ = some (.int .i64 a0_1) := (blk_cell BK134.out 1).trans rfl; have hcz18_2 : w17.cell? ⟨gb134, 2, none⟩ = some (.slice A0_2 l0_2.length c0_2) := (blk_cell BK134.out 2).trans rfl; have hcz18_3 : w17.cell? ⟨gb134, 3, none⟩ = some (.bool a0_3) := (blk_cell BK134.out 3).trans rfl; have hcz18_4 : w17.cell? ⟨gb134, 4, none⟩ = some (.int .i64 a0_4) := (blk_cell BK134.out 4).trans rfl; have hcz18_5 : w17.cell? ⟨gb134, 5, none⟩ = some (.int .i64 a0_5) := (blk_cell BK134.out 5).trans rfl; have hcz18_6 : w17.cell? ⟨gb134, 6, none⟩ = some (.int .i64 a0_6) := (blk_cell BK134.out 6).trans rfl; have hcz18_7 : w17.cell? ⟨gb134, 7, none⟩ = some (.int .i64 a0_7) := (blk_cell BK134.out 7).trans rfl; have hcz18_8 : w17.cell? ⟨gb134, 8, none⟩ = some (.int .i64 a0_8) := (blk_cell BK134.out 8).trans rfl; have hcz18_9 : w17.cell? ⟨gb134, 9, none⟩ = some (.int .i64 a0_9) := (blk_cell BK134.out 9).trans rfl; have hfz18_0 := blk_frozen BK134.out 0; have hfz18_1 := blk_frozen BK134.out 1; have hfz18_2 := blk_frozen BK134.out 2; have hfz18_3 := blk_frozen BK134.out 3; have hfz18_4 := blk_frozen BK134.out 4; have hfz18_5 := blk_frozen BK134.out 5; have hfz18_6 := blk_frozen BK134.out 6; have hfz18_7 := blk_frozen BK134.out 7; have hfz18_8 := blk_frozen BK134.out 8; have hfz18_9 := blk_frozen BK134.out 9) | ((with_reducible refine gate_callee (f := 25) rfl ?_); refine goesL_ (some 7) rfl rfl Try.func25 (by kernel_rfl) rfl #[.agg #[.int .i64 a0_0, .int .i64 a0_1, .slice A0_2 l0_2.length c0_2, .bool a0_3, .int .i64 a0_4, .int .i64 a0_5, .int .i64 a0_6, .int .i64 a0_7, .int .i64 a0_8, .int .i64 a0_9]] rfl (by (try simp only [List.map_toArray, List.map_cons, List.map_nil]); first | done | rfl | (simp only [List.length_drop, List.length_take]; rfl)) ?_; (with_reducible refine (winnowref14_Check.calls k a0_0 a0_1 _ _ l0_2 a0_3 a0_4 a0_5 a0_6 a0_7 a0_8 a0_9 t135 _ ?side1 ?side2 A3.out).mono ?_); (case side1 => repeat (first | exact (Kd.C_below HR0_2.out HB.out) | (with_reducible refine Kd.C_alloc ?_ _) | (with_reducible refine Kd.C_drewN ?_ _) | (with_reducible refine Kd.C_drew ?_))); (case side2 => exact HC0_2.out); rintro e w19 ⟨rfl, hb⟩; refine ⟨_, rfl, ?_⟩; have n0_ := Aside0.mk (blk_below (g := gb134) (o := .cells #[.int .i64 a0_0, .int .i64 a0_1, .slice A0_2 l0_2.length c0_2, .bool a0_3, .int .i64 a0_4, .int .i64 a0_5, .int .i64 a0_6, .int .i64 a0_7, .int .i64 a0_8, .int .i64 a0_9] 28 (0, 0)) (by (with_reducible repeat (first | refine blk_drewN ?_ _ | refine blk_drew ?_ | refine blk_alloc ?_ _)); exact BK134.out) hb); have n1_ := Aside0.mk (below_step (by repeat (first | (with_reducible first | exact HB.out | apply below_alloc | apply pw_below_drewN | apply below_drew1 | refine below_set ?_ GE134.out) | exact HB.out)) hb); clear BK134; clear HB; have BK134 := n0_; have HB := n1_; clear n0_ n1_; (try clear hb); (try clear hb2); (try clear hk); (try clear hi)))
    go_ret
    exact ⟨by first | rfl | (simp [errW_none, errW_some] <;> rfl) | (simp [*, errW_none, errW_some] <;> rfl), by repeat (first | (with_reducible first | exact HB.out | apply below_alloc | apply pw_below_drewN | apply below_drew1 | refine below_set ?_ GE134.out) | exact HB.out)⟩

end Go.Proofs.Ytbjlfenappnccaa.P

end
section
/- Check, Range and their documents' answers, in plain lists. -/
namespace Go.Proofs.Ytbjlfenappnccaa.P
open Go.RowKit Go.Proofs.YtbjlfenappnccaaW.PrintWords Go.Proofs.YtbjlfenappnccaaW.PrintLast Go.Proofs.Ytbjlfenappnccaa.Hand
set_option linter.unusedVariables false

theorem rdb_nat (l : List ByteArray) (i : Nat) (h : i < l.length) : rdOf ByteArray.empty l (i : Int) = l[i] := by
  unfold rdOf
  rw [Int.toNat_natCast, List.getD_eq_getElem?_getD, List.getElem?_eq_getElem h]
  rfl
theorem wrap_pred (i : Nat) (h : i ≤ 140737488355328) : wrap64 (((i + 1 : Nat) : Int) - 1) = (i : Int) := by unfold wrap64; omega
theorem wrap_succB (i : Nat) (h : i ≤ 140737488355328) : wrap64 ((i : Int) + 1) = ((i + 1 : Nat) : Int) := by unfold wrap64; omega
/-! ### the document's Compare -/
theorem Common_loop (a b : ByteArray) (ha : a.size ≤ 140737488355328) (d : Nat) : ∀ (k i : Nat), i + d = a.size → i ≤ b.size → d < k →
    ∃ j : Nat, winnowref2_Common.l0 k a b (i : Int) = some (j : Int) ∧ j ≤ a.size ∧ j ≤ b.size ∧ cmpL (a.data.toList.drop i) (b.data.toList.drop i) = cmpL (a.data.toList.drop j) (b.data.toList.drop j) ∧ (∀ (h1 : j < a.size) (h2 : j < b.size), bt a j ≠ bt b j) := by
  induction d with
  | zero =>
    intro k i hi hb hk
    obtain ⟨k, rfl⟩ : ∃ m, k = m + 1 := ⟨k - 1, by omega⟩
    rw [winnowref2_Common.l0, if_neg (by omega)]
    exact ⟨i, rfl, by omega, hb, rfl, fun h1 _ => by omega⟩
  | succ d ih =>
    intro k i hi hb hk
    obtain ⟨k, rfl⟩ : ∃ m, k = m + 1 := ⟨k - 1, by omega⟩
    have h1 : i < a.size := by omega
    rw [winnowref2_Common.l0, if_pos (by omega)]
    by_cases h2 : i < b.size
    · rw [if_pos (by omega), if_pos (by omega)]
      by_cases he : bt a (i : Int) = bt b (i : Int)
      · rw [if_pos he, wrap_succB i (by omega)]
        obtain ⟨j, q1, q2, q3, q4, q5⟩ := ih k (i + 1) (by omega) (by omega) (by omega)
        refine ⟨j, q1, q2, q3, ?_, q5⟩
        rw [← q4, drop_cons a i h1, drop_cons b i h2, cmpL_cons]
        have e1 := bt_get a i h1
        have e2 := bt_get b i h2
        rw [if_neg (by omega), if_neg (by omega)]
      · rw [if_neg he]
        exact ⟨i, rfl, by omega, by omega, rfl, fun _ _ => he⟩
    · rw [if_neg (by omega)]
      exact ⟨i, rfl, by omega, hb, rfl, fun _ h => absurd h h2⟩
theorem RefCompare_eq (a b : ByteArray) (ha : a.size ≤ 140737488355328) (k : Nat) (hk : a.size + 1 < k) : winnowref2_Compare.f k a b = some (cmpL a.toList b.toList) := by
  obtain ⟨k, rfl⟩ : ∃ m, k = m + 1 := ⟨k - 1, by omega⟩
  obtain ⟨j, q1, q2, q3, q4, q5⟩ := Common_loop a b ha a.size (k + 1) 0 (by omega) (Nat.zero_le _) (by omega)
  unfold winnowref2_Compare.f winnowref2_Common.f
  rw [show (0 : Int) = ((0 : Nat) : Int) from rfl, q1, Option.bind_some]
  rw [ByteArray.toList_eq, ByteArray.toList_eq]
  rw [List.drop_zero, List.drop_zero] at q4
  rw [q4]
  rcases Nat.lt_or_ge j a.size with h1 | h1
  · rw [if_neg (by omega), winnowref2_Compare.j0, if_neg (by decide), if_neg (by omega)]
    rcases Nat.lt_or_ge j b.size with h2 | h2
    · rw [if_neg (by omega), if_pos (by omega), if_pos (by omega), if_pos (by omega)]
      have hne := q5 h1 h2
      have e1 := bt_get a j h1
      have e2 := bt_get b j h2
      rw [drop_cons a j h1, drop_cons b j h2, cmpL_cons]
      by_cases hlt : bt a (j : Int) < bt b (j : Int)
      · rw [if_pos hlt, if_pos (by omega)]
      · rw [if_neg hlt, if_neg (by omega), if_pos (by omega)]
    · rw [if_pos (by omega), drop_cons a j h1, List.drop_of_length_le (l := b.data.toList) (by simp; omega), cmpL_nil_right]
      simp
  · rw [if_pos (by omega)]
    rcases Nat.lt_or_ge j b.size with h2 | h2
    · have hd : ((j : Int) == (b.size : Int)) = false := by simp; omega
      rw [hd, winnowref2_Compare.j0, if_neg (by decide), if_pos (by omega), List.drop_of_length_le (l := a.data.toList) (by simp; omega), cmpL_nil_left, if_neg (by simp; omega)]
    · have hd : ((j : Int) == (b.size : Int)) = true := by simp; omega
      rw [hd, winnowref2_Compare.j0, if_pos rfl, List.drop_of_length_le (l := a.data.toList) (by simp; omega), List.drop_of_length_le (l := b.data.toList) (by simp; omega), cmpL_nil_left]
      rfl
/-! ### Range -/
/-- how many stand at or ahead of the key -/
def cnt (key : ByteArray) (l : List ByteArray) : Nat := (l.filter fun b => decide (cmpL b.toList key.toList ≤ 0)).length
theorem cnt_le (key : ByteArray) (l : List ByteArray) : cnt key l ≤ l.length := List.length_filter_le _ _
theorem cnt_cons (key b : ByteArray) (l : List ByteArray) : cnt key (b :: l) = (if cmpL b.toList key.toList ≤ 0 then cnt key l + 1 else cnt key l) := by
  unfold cnt
  rw [List.filter_cons]
  by_cases h : cmpL b.toList key.toList ≤ 0
  · rw [if_pos h, if_pos (by simpa using h)]; rfl
  · rw [if_neg h, if_neg (by simpa using h)]
def szs (l : List ByteArray) : Prop := l.length ≤ 140737488351232 ∧ ∀ b ∈ l, b.size ≤ 140737488351233
instance (l : List ByteArray) : Decidable (szs l) := by unfold szs; infer_instance
theorem Range_loop (l : List ByteArray) (key : ByteArray) (hl : szs l) (d : Nat) : ∀ (k i c : Nat), i + d = l.length → c ≤ i → d + 140737488351300 < k →
    parts_Range.l0 k key (c : Int) l (l.length : Int) (i : Int) = some ((c + cnt key (l.drop i) : Nat) : Int) ∧ winnowref14_Range.l0 k l key (c : Int) (i : Int) = some ((c + cnt key (l.drop i) : Nat) : Int) := by
  induction d with
  | zero =>
    intro k i c hi hc hk
    obtain ⟨k, rfl⟩ : ∃ m, k = m + 1 := ⟨k - 1, by omega⟩
    rw [parts_Range.l0, if_neg (by omega), winnowref14_Range.l0, if_neg (by omega), List.drop_of_length_le (by omega)]
    exact ⟨rfl, rfl⟩
  | succ d ih =>
    intro k i c hi hc hk
    obtain ⟨k, rfl⟩ : ∃ m, k = m + 1 := ⟨k - 1, by omega⟩
    have h : i < l.length := by omega
    have hb := hl.2 _ (List.getElem_mem h)
    have hll := hl.1
    rw [parts_Range.l0, if_pos (by omega), if_pos (by omega), if_pos (by omega), winnowref14_Range.l0, if_pos (by omega), if_pos (by omega), rdb_nat l i h, nums_Compare_eq _ _ (by omega) k (by omega), RefCompare_eq _ _ (by omega) k (by omega), Option.bind_some, Option.bind_some,
      wrap_succB i (by omega), wrap_succB c (by omega), List.drop_eq_getElem_cons h, cnt_cons]
    by_cases hp : cmpL l[i].toList key.toList ≤ 0
    · rw [if_pos hp, if_pos hp, if_pos hp]
      have := ih k (i + 1) (c + 1) (by omega) (by omega) (by omega)
      rw [show c + (cnt key (l.drop (i + 1)) + 1) = c + 1 + cnt key (l.drop (i + 1)) by omega]
      exact this
    · rw [if_neg hp, if_neg hp, if_neg hp]
      exact ih k (i + 1) c (by omega) (by omega) (by omega)
theorem Range_eq (l : List ByteArray) (key : ByteArray) (hl : szs l) (k : Nat) (hk : l.length + 140737488351300 < k) : parts_Range.f k l key = some (cnt key l : Int) ∧ winnowref14_Range.f k l key = some (cnt key l : Int) := by
  have := Range_loop l key hl l.length k 0 0 (by omega) (Nat.le_refl _) hk
  rw [List.drop_zero, Nat.zero_add] at this
  exact this
/-! ### Check -/
def okAt (l : List ByteArray) (j : Nat) : Prop := ∀ h : j < l.length, l[j].size ≤ 1024 ∧ (∀ i, (hi : i + 1 = j) → 0 ≤ cmpL l[j].toList (l[i]'(by omega)).toList)
def okBB (l : List ByteArray) (j : Nat) : Bool := if h : j < l.length then decide (l[j].size ≤ 1024) && (if h0 : 0 < j then decide (0 ≤ cmpL l[j].toList (l[j - 1]'(by omega)).toList) else true) else true
theorem okBB_iff (l : List ByteArray) (j : Nat) : okBB l j = true ↔ okAt l j := by
  unfold okBB okAt
  by_cases h : j < l.length
  · rw [dif_pos h, Bool.and_eq_true, decide_eq_true_iff]
    cases j with
    | zero =>
      rw [dif_neg (Nat.lt_irrefl 0)]
      exact ⟨fun q _ => ⟨q.1, fun i hi => by omega⟩, fun q => ⟨(q h).1, rfl⟩⟩
    | succ i =>
      rw [dif_pos (Nat.succ_pos i), decide_eq_true_iff]
      exact ⟨fun q _ => ⟨q.1, fun i' hi' => by (have e : i' = i := by omega); subst e; exact q.2⟩, fun q => ⟨(q h).1, (q h).2 i rfl⟩⟩
  · rw [dif_neg h]
    exact ⟨fun _ q => absurd q h, fun _ => rfl⟩
def okI (l : List ByteArray) (i : Nat) : Int := if (List.range l.length).all (fun j => decide (j < i) || okBB l j) = true then 0 else 140
theorem okI_all (l : List ByteArray) (i : Nat) : (List.range l.length).all (fun j => decide (j < i) || okBB l j) = true ↔ ∀ j, i ≤ j → okAt l j := by
  rw [List.all_eq_true]
  constructor
  · intro q j hj
    by_cases h : j < l.length
    · have := q j (List.mem_range.2 h)
      rw [Bool.or_eq_true, decide_eq_true_iff, okBB_iff] at this
      exact this.resolve_left (by omega)
    · exact fun h' => absurd h' h
  · intro q j hj
    rw [Bool.or_eq_true, decide_eq_true_iff, okBB_iff]
    by_cases h : j < i
    · exact .inl h
    · exact .inr (q j (by omega))
theorem okI_bad (l : List ByteArray) (i : Nat) (h : ¬ okAt l i) : okI l i = 140 := if_neg (fun q => h ((okI_all l i).1 q i (Nat.le_refl _)))
theorem okI_end (l : List ByteArray) (i : Nat) (h : l.length ≤ i) : okI l i = 0 := if_pos ((okI_all l i).2 (fun j hj hlt => by omega))
theorem okI_next (l : List ByteArray) (i : Nat) (h : okAt l i) : okI l i = okI l (i + 1) := by
  unfold okI
  by_cases q : ∀ j, i + 1 ≤ j → okAt l j
  · rw [if_pos ((okI_all l (i + 1)).2 q), if_pos ((okI_all l i).2 (fun j hj => by rcases Nat.eq_or_lt_of_le hj with e | e; (subst e; exact h); exact q j e))]
  · rw [if_neg (fun e => q ((okI_all l (i + 1)).1 e)), if_neg (fun e => q (fun j hj => (okI_all l i).1 e j (by omega)))]
theorem Check_loops (l : List ByteArray) (hl : szs l) (a b : Int) (c : Bool) (e f g h1 h2 h3 : Int) (d : Nat) : ∀ (k i : Nat), i + d = l.length → d + 140737488351300 < k →
    parts_Check.l0 k l (l.length : Int) (i : Int) a b l c e f g h1 h2 h3 = some (okI l i) ∧ winnowref14_Check.l0 k (i : Int) a b l c e f g h1 h2 h3 = some (okI l i) := by
  induction d with
  | zero =>
    intro k i hi hk
    obtain ⟨k, rfl⟩ : ∃ m, k = m + 1 := ⟨k - 1, by omega⟩
    rw [parts_Check.l0, if_neg (by omega), winnowref14_Check.l0, if_neg (by omega), okI_end l i (by omega)]
    exact ⟨rfl, rfl⟩
  | succ d ih =>
    intro k i hi hk
    obtain ⟨k, rfl⟩ : ∃ m, k = m + 1 := ⟨k - 1, by omega⟩
    have h : i < l.length := by omega
    have hb := hl.2 _ (List.getElem_mem h)
    have hll := hl.1
    have c1 : ((i : Nat) : Int) < (l.length : Int) := Int.ofNat_lt.2 h
    have c0 : (0 : Int) ≤ ((i : Nat) : Int) := Int.natCast_nonneg i
    rw [parts_Check.l0, if_pos c1, if_pos c0, if_pos c1, winnowref14_Check.l0, if_pos c1, if_pos c0, rdb_nat l i h]
    by_cases hsz : (l[i].size : Int) > 1024
    · rw [if_pos hsz, if_pos hsz, okI_bad l i (fun q => by have := (q h).1; omega)]
      exact ⟨rfl, rfl⟩
    · rw [if_neg hsz, if_neg hsz]
      cases i with
      | zero =>
        have hok : okAt l 0 := fun _ => ⟨by omega, fun i hi => by omega⟩
        have c2 : ¬ (((0 : Nat) : Int) > 0) := by decide
        rw [if_neg c2, if_neg c2, wrap_succB 0 (by omega), okI_next l 0 hok]
        exact ih k 1 (by omega) (by omega)
      | succ i =>
        have c2 : ((i + 1 : Nat) : Int) > 0 := by omega
        have c3 : (0 : Int) ≤ ((i : Nat) : Int) := Int.natCast_nonneg i
        have c4 : ((i : Nat) : Int) < (l.length : Int) := by omega
        rw [if_pos c2, if_pos c2, wrap_pred i (by omega), if_pos c3, if_pos c4, if_pos c3, if_pos c4, rdb_nat l i (by omega), nums_Compare_eq _ _ (by omega) k (by omega), RefCompare_eq _ _ (by omega) k (by omega), Option.bind_some, Option.bind_some]
        by_cases hp : cmpL l[i + 1].toList l[i].toList < 0
        · rw [if_pos hp, if_pos hp, okI_bad l (i + 1) (fun q => by have := (q h).2 i rfl; omega)]
          exact ⟨rfl, rfl⟩
        · have hok : okAt l (i + 1) := fun _ => ⟨by omega, fun j hj => by (have e : j = i := by omega); subst e; omega⟩
          rw [if_neg hp, if_neg hp, wrap_succB (i + 1) (by omega), okI_next l (i + 1) hok]
          exact ih k (i + 2) (by omega) (by omega)
/-- what Check answers -/
def chk (n : Int) (l : List ByteArray) : Int := if 1 ≤ n ∧ n ≤ 65535 then (if l.length = 0 then 0 else if (l.length : Int) = n - 1 then okI l 0 else 140) else 3
theorem Check_eq (l : List ByteArray) (hl : szs l) (a b : Int) (c : Bool) (e f g h1 h2 h3 : Int) (hb : -9223372036854775808 ≤ b ∧ b ≤ 9223372036854775807) (k : Nat) (hk : l.length + 140737488351310 < k) :
    parts_Check.f k a b l c e f g h1 h2 h3 = some (chk b l) ∧ winnowref14_Check.f k a b l c e f g h1 h2 h3 = some (chk b l) := by
  obtain ⟨k, rfl⟩ : ∃ m, k = m + 1 := ⟨k - 1, by omega⟩
  have hloops : parts_Check.l0 k l (l.length : Int) 0 a b l c e f g h1 h2 h3 = some (okI l 0) ∧ winnowref14_Check.l0 k 0 a b l c e f g h1 h2 h3 = some (okI l 0) := Check_loops l hl a b c e f g h1 h2 h3 l.length k 0 (by omega) (by omega)
  unfold parts_Check.f parts_good.f winnowref14_Check.f chk
  by_cases hb1 : b ≥ 1
  · rw [if_pos hb1, Option.bind_some, if_neg (show ¬ b < 1 by omega)]
    by_cases hb2 : b ≤ 65535
    · have hw : wrap64 (b - 1) = b - 1 := by unfold wrap64; omega
      have d1 : decide (b ≤ 65535) = true := decide_eq_true hb2
      have d2 : decide (b > 65535) = false := decide_eq_false (by omega)
      rw [d1, d2, if_pos rfl, if_pos (⟨hb1, hb2⟩ : 1 ≤ b ∧ b ≤ 65535), winnowref14_Check.j0, if_neg (show ¬ (false = true) by decide), hw]
      by_cases hz : l.length = 0
      · rw [if_neg (show ¬ (l.length : Int) > 0 by omega), if_pos (show (l.length : Int) = 0 by omega), if_pos hz, parts_Check.j0, if_neg (show ¬ (false = true) by decide), hloops.1, okI_end l 0 (by omega)]
        exact ⟨rfl, rfl⟩
      · rw [if_pos (show (l.length : Int) > 0 by omega), if_neg (show ¬ (l.length : Int) = 0 by omega), if_neg hz]
        by_cases he : (l.length : Int) = b - 1
        · have d3 : ((l.length : Int) != b - 1) = false := by simp [he]
          rw [d3, parts_Check.j0, if_neg (show ¬ (false = true) by decide), if_pos he, if_pos he]
          exact hloops
        · have d3 : ((l.length : Int) != b - 1) = true := by simp [he]
          rw [d3, parts_Check.j0, if_pos rfl, if_neg he, if_neg he]
          exact ⟨rfl, rfl⟩
    · have d1 : decide (b ≤ 65535) = false := decide_eq_false hb2
      have d2 : decide (b > 65535) = true := decide_eq_true (by omega)
      rw [d1, d2, if_neg (show ¬ (false = true) by decide), if_neg (show ¬ (1 ≤ b ∧ b ≤ 65535) by omega), winnowref14_Check.j0, if_pos rfl]
      exact ⟨rfl, rfl⟩
  · rw [if_neg hb1, Option.bind_some, if_neg (show ¬ (false = true) by decide), if_pos (show b < 1 by omega), if_neg (show ¬ (1 ≤ b ∧ b ≤ 65535) by omega), winnowref14_Check.j0, if_pos rfl]
    exact ⟨rfl, rfl⟩
/-! ### a sorted list's search -/
theorem okI_sorted {l : List ByteArray} (h : okI l 0 = 0) : ∀ j, okAt l j := by
  by_cases q : (List.range l.length).all (fun j => decide (j < 0) || okBB l j) = true
  · exact fun j => (okI_all l 0).1 q j (Nat.zero_le _)
  · rw [okI, if_neg q] at h
    cases h
theorem cnt_split (key : ByteArray) : ∀ l : List ByteArray, (∀ j, (h : j + 1 < l.length) → atOr key l[j + 1] → atOr key l[j]) → ∀ i, (h : i < l.length) → (i < cnt key l ↔ atOr key l[i]) := by
  intro l
  induction l with
  | nil => intro _ i h; simp at h
  | cons b l ih =>
    intro hm i h
    rw [cnt_cons]
    have ih' := ih (fun j hj hp => hm (j + 1) (by simp; omega) hp)
    by_cases hb : cmpL b.toList key.toList ≤ 0
    · rw [if_pos hb]
      cases i with
      | zero => exact ⟨fun _ => hb, fun _ => by omega⟩
      | succ i =>
        have := ih' i (by simpa using h)
        rw [List.getElem_cons_succ, ← this]
        omega
    · rw [if_neg hb]
      have hno : ∀ i, (h : i < (b :: l).length) → ¬ atOr key (b :: l)[i] := by
        intro i
        induction i with
        | zero => intro h hp; exact hb hp
        | succ i ihi => intro h hp; exact ihi (by simp at h ⊢; omega) (hm i h hp)
      have hz : cnt key l = 0 := by
        rcases Nat.eq_zero_or_pos (cnt key l) with hz | hz
        · exact hz
        · have hl0 : 0 < l.length := Nat.lt_of_lt_of_le hz (cnt_le key l)
          exact absurd ((ih' 0 hl0).1 hz) (hno 1 (by simp; omega))
      rw [hz]
      exact ⟨fun q => by omega, fun q => absurd q (hno i h)⟩
theorem sorted_split (key : ByteArray) (l : List ByteArray) (h : ∀ j, okAt l j) : ∀ i, (hi : i < l.length) → (i < cnt key l ↔ atOr key l[i]) := by
  refine cnt_split key l (fun j hj hp => ?_)
  have := (h (j + 1) hj).2 j rfl
  refine cmpL_trans ?_ hp
  have q := (cmpL_swap l[j + 1].toList l[j].toList)
  by_cases c : cmpL l[j].toList l[j + 1].toList ≤ 0
  · exact c
  · have := q.2 c
    omega
end Go.Proofs.Ytbjlfenappnccaa.P

end
section
/- parts.Bounds' answer in plain lists. -/
namespace Go.Proofs.Ytbjlfenappnccaa.P
open Go.RowKit Go.Proofs.YtbjlfenappnccaaW.PrintWords Go.Proofs.YtbjlfenappnccaaW.PrintLast Go.Proofs.Ytbjlfenappnccaa.Hand
set_option linter.unusedVariables false

/-- the bounds of n parts, of keys in order -/
def atB (s : List ByteArray) (n i : Nat) : ByteArray := if s.length = 0 then ByteArray.empty else s.getD ((i + 1) * s.length / n) ByteArray.empty
def blB (s : List ByteArray) (n : Nat) : List ByteArray := (List.range (n - 1)).map (atB s n)
theorem blB_length (s : List ByteArray) (n : Nat) : (blB s n).length = n - 1 := by simp [blB]
/-- what Bounds answers -/
def boundsOf (l : List ByteArray) (n : Int) : List ByteArray × Int :=
  if 65536 < l.length then ([], 2) else if 1 ≤ n ∧ n ≤ 65535 then (if ∀ b ∈ l, b.size ≤ 1024 then (blB (sortB l) n.toNat, 0) else ([], 140)) else ([], 3)
theorem bo_long {l : List ByteArray} {n : Int} (h : 65536 < l.length) : boundsOf l n = ([], 2) := if_pos h
theorem bo_arg {l : List ByteArray} {n : Int} (h : ¬ 65536 < l.length) (h2 : ¬ (1 ≤ n ∧ n ≤ 65535)) : boundsOf l n = ([], 3) := by unfold boundsOf; rw [if_neg h, if_neg h2]
theorem bo_bad {l : List ByteArray} {n : Int} (h : ¬ 65536 < l.length) (h2 : 1 ≤ n ∧ n ≤ 65535) (i : Nat) (hi : i < l.length) (hb : 1024 < l[i].size) : boundsOf l n = ([], 140) := by
  unfold boundsOf; rw [if_neg h, if_pos h2, if_neg (fun q => by have := q _ (List.getElem_mem hi); omega)]
theorem bo_ok {l : List ByteArray} {n : Int} (h : ¬ 65536 < l.length) (h2 : 1 ≤ n ∧ n ≤ 65535) (hx : ∀ b ∈ l, b.size ≤ 1024) : boundsOf l n = (blB (sortB l) n.toNat, 0) := by
  unfold boundsOf; rw [if_neg h, if_pos h2, if_pos hx]
/-- the list when i of its places are written -/
def plB (s : List ByteArray) (n i : Nat) : List ByteArray := ((blB s n).take i) ++ List.replicate (n - 1 - i) ByteArray.empty
theorem plB_length (s : List ByteArray) (n i : Nat) (h : i ≤ n - 1) : (plB s n i).length = n - 1 := by simp [plB, blB_length]; omega
theorem plB_zero (s : List ByteArray) (n : Nat) : plB s n 0 = List.replicate (n - 1) ByteArray.empty := by simp [plB]
theorem plB_end (s : List ByteArray) (n : Nat) : plB s n (n - 1) = blB s n := by
  unfold plB
  rw [Nat.sub_self, List.replicate_zero, List.append_nil, List.take_of_length_le (by rw [blB_length]; omega)]
theorem plB_set (s : List ByteArray) (n i : Nat) (h : i < n - 1) : (plB s n i).set i (atB s n i) = plB s n (i + 1) := by
  unfold plB
  have hl : ((blB s n).take i).length = i := by simp [blB_length]; omega
  rw [List.set_append_right _ _ (by omega), hl, Nat.sub_self, show n - 1 - i = (n - 1 - (i + 1)) + 1 by omega, List.replicate_succ, List.set_cons_zero, List.take_succ_eq_append_getElem (by rw [blB_length]; omega), List.append_assoc]
  congr 1
  simp [blB]
theorem plB_empty (s : List ByteArray) (n i : Nat) (h : i < n - 1) (hs : s.length = 0) : plB s n i = plB s n (i + 1) := by
  rw [← plB_set s n i h]
  have e : atB s n i = ByteArray.empty := if_pos hs
  rw [e]
  unfold plB
  have hl : ((blB s n).take i).length = i := by simp [blB_length]; omega
  rw [List.set_append_right _ _ (by omega), hl, Nat.sub_self, show n - 1 - i = (n - 1 - (i + 1)) + 1 by omega, List.replicate_succ, List.set_cons_zero]
theorem at_lt (m n i : Nat) (hm : 0 < m) (hi : i + 1 < n) : (i + 1) * m / n < m := by
  rw [Nat.div_lt_iff_lt_mul (by omega)]
  rw [Nat.mul_comm m n]
  exact (Nat.mul_lt_mul_right hm).2 hi
end Go.Proofs.Ytbjlfenappnccaa.P

end
section
/- Keys in order: what sortB and the bounds of it are. -/
namespace Go.Proofs.Ytbjlfenappnccaa.P
open Go.RowKit Go.Proofs.YtbjlfenappnccaaW.PrintWords Go.Proofs.YtbjlfenappnccaaW.PrintLast Go.Proofs.Ytbjlfenappnccaa.Hand
set_option linter.unusedVariables false

theorem leB_trans (a b c : ByteArray) (h1 : leB a b = true) (h2 : leB b c = true) : leB a c = true := by
  unfold leB at *
  simp only [Bool.not_eq_true'] at *
  exact bl_trans _ _ _ h1 h2
theorem leB_total (a b : ByteArray) : (leB a b || leB b a) = true := by
  unfold leB
  by_cases h : Op.bytesLess a.toList b.toList = true
  · rw [bl_asymm _ _ h]; simp
  · have h' : Op.bytesLess a.toList b.toList = false := by simpa using h
    rw [h']; simp
theorem ba_eq {a b : ByteArray} (h : a.toList = b.toList) : a = b := by
  rw [ByteArray.toList_eq, ByteArray.toList_eq] at h
  have : a.data = b.data := Array.toList_inj.1 h
  cases a; cases b
  simp only at this
  rw [this]
theorem leB_anti {a b : ByteArray} (h1 : leB a b = true) (h2 : leB b a = true) : a = b := by
  unfold leB at *
  simp only [Bool.not_eq_true'] at *
  exact ba_eq (bl_eq _ _ h2 h1)
theorem leB_iff (a b : ByteArray) : leB a b = true ↔ cmpL a.toList b.toList ≤ 0 := by
  rw [cmpL_le]
  unfold leB
  simp
theorem leB_refl (a : ByteArray) : leB a a = true := by have := leB_total a a; simpa using this
theorem sortB_sorted (l : List ByteArray) : (sortB l).Pairwise (fun a b => leB a b = true) := List.pairwise_mergeSort leB_trans leB_total l
theorem sortB_le (l : List ByteArray) (i j : Nat) (hi : i ≤ j) (hj : j < (sortB l).length) : leB ((sortB l)[i]'(by omega)) (sortB l)[j] = true := by
  rcases Nat.eq_or_lt_of_le hi with h | h
  · subst h; exact leB_refl _
  · exact List.pairwise_iff_getElem.1 (sortB_sorted l) i j (by omega) hj h
theorem sortB_unique {l L : List ByteArray} (hp : L.Perm l) (hs : L.Pairwise (fun a b => leB a b = true)) : sortB l = L :=
  List.Perm.eq_of_pairwise (fun a b _ _ h1 h2 => leB_anti h1 h2) (sortB_sorted l) hs ((sortB_perm l).trans hp.symm)
theorem sortB_mem {l : List ByteArray} {b : ByteArray} : b ∈ sortB l ↔ b ∈ l := (sortB_perm l).mem_iff
/-! ### the bounds of it -/
theorem atB_pos (s : List ByteArray) (n i : Nat) (hs : 0 < s.length) (h : i + 1 < n) : atB s n i = s[(i + 1) * s.length / n]'(at_lt _ _ _ hs h) := by
  unfold atB
  rw [if_neg (by omega), List.getD_eq_getElem?_getD, List.getElem?_eq_getElem (at_lt _ _ _ hs h)]
  rfl
theorem blB_get (s : List ByteArray) (n i : Nat) (h : i < (blB s n).length) : (blB s n)[i] = atB s n i := by simp [blB]
theorem blB_le (l : List ByteArray) (n i j : Nat) (hij : i ≤ j) (hj : j < (blB (sortB l) n).length) : leB ((blB (sortB l) n)[i]'(by omega)) (blB (sortB l) n)[j] = true := by
  have hl := blB_length (sortB l) n
  rw [blB_get, blB_get]
  rcases Nat.eq_zero_or_pos (sortB l).length with h0 | h0
  · unfold atB; rw [if_pos h0, if_pos h0]; exact leB_refl _
  · rw [atB_pos _ _ _ h0 (by omega), atB_pos _ _ _ h0 (by omega)]
    exact sortB_le l _ _ (Nat.div_le_div_right (Nat.mul_le_mul_right _ (by omega))) (at_lt _ _ _ h0 (by omega))
theorem blB_mem (l : List ByteArray) (n i : Nat) (h0 : 0 < l.length) (h : i < (blB (sortB l) n).length) : (blB (sortB l) n)[i] ∈ l := by
  have hl := blB_length (sortB l) n
  have h0' : 0 < (sortB l).length := by rw [sortB_length]; exact h0
  rw [blB_get, atB_pos _ _ _ h0' (by omega)]
  exact sortB_mem.1 (List.getElem_mem _)
theorem blB_split (key : ByteArray) (l : List ByteArray) (n i : Nat) (h : i < (blB (sortB l) n).length) : i < cnt key (blB (sortB l) n) ↔ leB (blB (sortB l) n)[i] key = true := by
  rw [leB_iff]
  refine cnt_split key _ (fun j hj hp => ?_) i h
  exact (leB_iff _ _).1 (leB_trans _ _ _ (blB_le l n j (j + 1) (by omega) hj) ((leB_iff _ _).2 hp))
/-- as many parts as keys, all unlike: a key's part is its place -/
theorem cnt_place (l : List ByteArray) (hd : l.Nodup) (r : Nat) (hr : r < (sortB l).length) : cnt (sortB l)[r] (blB (sortB l) l.length) = r := by
  have hl := blB_length (sortB l) l.length
  have hsl := sortB_length l
  have hd2 : (sortB l).Nodup := (sortB_perm l).nodup_iff.2 hd
  have hne : ∀ i j, (hi : i < j) → (hj : j < (sortB l).length) → (sortB l)[i]'(by omega) ≠ (sortB l)[j] := fun i j hi hj => List.pairwise_iff_getElem.1 (List.nodup_iff_pairwise_ne.1 hd2) i j (by omega) hj hi
  have key : ∀ i, i < (blB (sortB l) l.length).length → (i < cnt (sortB l)[r] (blB (sortB l) l.length) ↔ i < r) := by
    intro i hi
    have h1 : i + 1 < (sortB l).length := by omega
    rw [blB_split _ l _ i hi, blB_get, atB_pos _ _ _ (by omega) (by omega)]
    have e : (i + 1) * (sortB l).length / l.length = i + 1 := by rw [hsl]; exact Nat.mul_div_cancel _ (by omega)
    have e2 : (sortB l)[(i + 1) * (sortB l).length / l.length]'(at_lt _ _ _ (by omega) (by omega)) = (sortB l)[i + 1] := by congr 1
    rw [e2]
    constructor
    · intro h
      rcases Nat.lt_or_ge i r with h2 | h2
      · exact h2
      · exact absurd (leB_anti (sortB_le l r (i + 1) (by omega) h1) h) (hne r (i + 1) (by omega) h1)
    · intro h
      exact sortB_le l (i + 1) r (by omega) hr
  have hc := cnt_le (sortB l)[r] (blB (sortB l) l.length)
  rcases Nat.lt_trichotomy (cnt (sortB l)[r] (blB (sortB l) l.length)) r with h | h | h
  · exact absurd ((key _ (by omega)).2 h) (Nat.lt_irrefl _)
  · exact h
  · have := (key r (by omega)).1 h
    omega
/-! ### three keys parted -/
theorem sort4 : sortB [⟨#[100]⟩, ⟨#[98]⟩, ⟨#[97]⟩, ⟨#[99]⟩] = [⟨#[97]⟩, ⟨#[98]⟩, ⟨#[99]⟩, ⟨#[100]⟩] := by
  apply sortB_unique
  · decide
  · simp only [List.pairwise_cons, leB, ByteArray.toList_eq]
    simp [Op.bytesLess]
end Go.Proofs.Ytbjlfenappnccaa.P

end
