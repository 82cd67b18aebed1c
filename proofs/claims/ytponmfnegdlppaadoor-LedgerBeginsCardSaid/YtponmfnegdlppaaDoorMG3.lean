/- Several texts laid together (wip/tools/merge2.py): Pf49, HCharged, Pf42, RefGood, HRefCheck, Pf60, RefA, Pf58, RefR, Pf41, Pf40. -/
import Derived.Test.YtponmfnegdlppaaDoorMG1
import Derived.Test.YtponmfnegdlppaaDoorMG2
import Derived.Outline
section
-- Written by a program of this session (wip/tools/hprint.py, over the kit's printer), not by hand. Lean checks it.
namespace Go.Proofs.YtponmfnegdlppaaDoor.P
open Go.RowKit Go.Proofs.YtponmfnegdlppaaDoorW.PrintWords Go.Proofs.YtponmfnegdlppaaDoorW.PrintLast Go.Proofs.YtponmfnegdlppaaDoorW.PrintMore
attribute [local go_sem] max2_int min2_int max_two min_two max_three min_three max_four min_four
set_option linter.unusedVariables false
set_option linter.unusedSimpArgs false

/-! ### winnowref19_with: function 49 -/
def winnowref19_with.f (a0_0 : Int) (l0_1 : List (S38)) (l0_2 : List (S38)) (a0_3 : Bool) (a1_0 : Int) (a1_1 : Int) (a2_0 : Int) (a2_1 : Int) (a2_2 : Int) : Option (Int × (List (S38)) × (List (S38)) × Bool) := (winnowref19_Copied.f a0_0 l0_1 l0_2 a0_3).bind fun bt310 => (if a1_0 = 0 then (if 0 ≤ a1_1 then (if a1_1 < (bt310.2.1.length : Int) then (some (bt310.1, (bt310.2.1.set (a1_1 : Int).toNat (⟨a2_0, a2_1, a2_2⟩ : S38)), bt310.2.2.1, bt310.2.2.2)) else (none)) else (none)) else (if 0 ≤ a1_1 then (if a1_1 < (bt310.2.2.1.length : Int) then (some (bt310.1, bt310.2.1, (bt310.2.2.1.set (a1_1 : Int).toNat (⟨a2_0, a2_1, a2_2⟩ : S38)), bt310.2.2.2)) else (none)) else (none)))
set_option maxHeartbeats 8000000 in
set_option maxRecDepth 100000 in
theorem winnowref19_with.calls (a0_0 : Int) (A0_1 : Option Addr) (c0_1 : Nat) (l0_1 : List (S38)) (A0_2 : Option Addr) (c0_2 : Nat) (l0_2 : List (S38)) (a0_3 : Bool) (a1_0 : Int) (a1_1 : Int) (a2_0 : Int) (a2_1 : Int) (a2_2 : Int) (r1 : Int) (r2 : List (S38)) (r3 : List (S38)) (r4 : Bool) (w : World) (hr0_1 : Kd.C k38 w A0_1 l0_1.length l0_1) (hc0_1 : l0_1.length ≤ c0_1) (hr0_2 : Kd.C k38 w A0_2 l0_2.length l0_2) (hc0_2 : l0_2.length ≤ c0_2) (h : winnowref19_with.f a0_0 l0_1 l0_2 a0_3 a1_0 a1_1 a2_0 a2_1 a2_2 = some (r1, r2, r3, r4)) :
    Calls Tryd.prog 49 #[.agg #[.int .i64 a0_0, .slice A0_1 l0_1.length c0_1, .slice A0_2 l0_2.length c0_2, .bool a0_3], .agg #[.int .i64 a1_0, .int .i64 a1_1], .agg #[.int .i64 a2_0, .int .i64 a2_1, .int .i64 a2_2]] w fun e w' => ∃ v1_ v2_ : Value, e = .returned (.agg #[.int .i64 r1, v1_, v2_, .bool r4]) ∧ Kd.R k38 38 w' w.heap.size (fun k_ => some k_ ≠ (v2_ : Value).ownBlock) v1_ r2 ∧ Kd.R k38 38 w' w.heap.size (fun k_ => some k_ ≠ (v1_ : Value).ownBlock) v2_ r3 ∧ Below w.heap.size w w' := by
  have hu24 := Tryd.underlying24
  have hu29 := Tryd.underlying29
  have hu38 := Tryd.underlying38
  have HR0_1 := Aside0.mk hr0_1
  have HC0_1 := Aside0.mk hc0_1
  clear hr0_1 hc0_1
  have HR0_2 := Aside0.mk hr0_2
  have HC0_2 := Aside0.mk hc0_2
  clear hr0_2 hc0_2
  have HB := Aside0.mk (Below.refl w.heap.size w)
  have H : ((winnowref19_Copied.f a0_0 l0_1 l0_2 a0_3).bind fun bt310 => (if a1_0 = 0 then (if 0 ≤ a1_1 then (if a1_1 < (bt310.2.1.length : Int) then (some (bt310.1, (bt310.2.1.set (a1_1 : Int).toNat (⟨a2_0, a2_1, a2_2⟩ : S38)), bt310.2.2.1, bt310.2.2.2)) else (none)) else (none)) else (if 0 ≤ a1_1 then (if a1_1 < (bt310.2.2.1.length : Int) then (some (bt310.1, bt310.2.1, (bt310.2.2.1.set (a1_1 : Int).toNat (⟨a2_0, a2_1, a2_2⟩ : S38)), bt310.2.2.2)) else (none)) else (none)))) = some (r1, r2, r3, r4) := h
  clear h
  replace H := Option.bind_eq_some_iff.mp H
  obtain ⟨⟨t310, t311, t314, t317⟩, A40, H⟩ := H
  replace H : (if a1_0 = 0 then (if 0 ≤ a1_1 then (if a1_1 < (t311.length : Int) then (some (t310, (t311.set (a1_1 : Int).toNat (⟨a2_0, a2_1, a2_2⟩ : S38)), t314, t317)) else (none)) else (none)) else (if 0 ≤ a1_1 then (if a1_1 < (t314.length : Int) then (some (t310, t311, (t314.set (a1_1 : Int).toNat (⟨a2_0, a2_1, a2_2⟩ : S38)), t317)) else (none)) else (none))) = some (r1, r2, r3, r4) := H
  have A4 := Aside0.mk A40
  clear A40
  by_cases c5 : a1_0 = 0
  · rw [if_pos c5] at H
    have c5b0 : (a1_0 == 0) = true := beq_iff_eq.mpr c5
    have c5b1 : (a1_0 != 0) = false := bne_eq_false_iff_eq.mpr c5
    clear c5
    by_cases c6 : 0 ≤ a1_1
    · rw [if_pos c6] at H
      have c6b0 : decide (0 ≤ a1_1) = true := decide_eq_true c6
      clear c6
      by_cases c7 : a1_1 < (t311.length : Int)
      · rw [if_pos c7] at H
        have c7b0 : decide (a1_1 < (t311.length : Int)) = true := decide_eq_true c7
        clear c7
        obtain ⟨y319, hy319⟩ : ∃ y_ : List (S38), y_ = (t311.set (a1_1 : Int).toNat (⟨a2_0, a2_1, a2_2⟩ : S38)) := ⟨_, rfl⟩
        replace H : (some (t310, y319, t314, t317)) = some (r1, r2, r3, r4) := by first | (rw [hy319]; with_reducible exact H) | (have H2_ := (Option.bind_some _ _).symm.trans H; rw [hy319]; with_reducible exact H2_) | (have H2_ := (Option.bind_some _ _).symm.trans H; with_reducible exact H2_) | with_reducible exact H | (rw [hy319]; exact H) | exact H
        have Ny319 := Aside0.mk hy319
        clear hy319
        simp only [Option.some.injEq, Prod.mk.injEq] at H
        obtain ⟨rfl, rfl, rfl, rfl⟩ := H
        go_enter Tryd.func49, Tryd.ntmps49
        go_wp2_with (first | ((with_reducible refine gate_dst (N := 3) rfl ?_); refine box_event ?hg (N := 3) ?hd (cs := #[.int .i64 a0_0, .slice A0_1 l0_1.length c0_1, .slice A0_2 l0_2.length c0_2, .bool a0_3]) (t := 24) ?hr ?_; (case hd => rfl); (case hg => rfl); (case hr => first | (go_simp; done) | (go_simp; rfl)); intro gb306 hg w9 hbox hb; have n0_ := Aside0.mk (below_step (by repeat (first | (with_reducible first | exact HB.out | apply below_alloc | apply pw_below_drewN | apply below_drew1) | exact HB.out)) hb); have n1_ := Aside0.mk (hbox); have n2_ := Aside0.mk ((by rw [hg]; exact (below_size (by repeat (first | (with_reducible first | exact HB.out | apply below_alloc | apply pw_below_drewN | apply below_drew1) | exact HB.out))) : w.heap.size ≤ gb306)); have n3_ := Aside0.mk ((by rw [hg]; exact (below_size (by repeat (first | (with_reducible first | exact HB.out | apply below_alloc | apply pw_below_drewN | apply below_drew1) | exact HB.out))) : w.heap.size ≤ gb306)); clear HB; have HB := n0_; have BK306 := n1_; have GW306 := n2_; have GE306 := n3_; clear n0_ n1_ n2_ n3_; clear hb hbox hg) | ((with_reducible refine gate_dst (N := 4) rfl ?_); refine box_event ?hg (N := 4) ?hd (cs := #[.int .i64 a1_0, .int .i64 a1_1]) (t := 29) ?hr ?_; (case hd => rfl); (case hg => rfl); (case hr => first | (go_simp; done) | (go_simp; rfl)); intro gb307 hg w10 hbox hb; have n0_ := Aside0.mk (blk_below (g := gb306) (o := .cells #[.int .i64 a0_0, .slice A0_1 l0_1.length c0_1, .slice A0_2 l0_2.length c0_2, .bool a0_3] 24 (0, 0)) (by (with_reducible repeat (first | refine blk_drewN ?_ _ | refine blk_drew ?_ | refine blk_alloc ?_ _)); exact BK306.out) hb); have n1_ := Aside0.mk (below_step (by repeat (first | (with_reducible first | exact HB.out | apply below_alloc | apply pw_below_drewN | apply below_drew1 | refine below_set ?_ GE306.out) | exact HB.out)) hb); have n2_ := Aside0.mk (hbox); have n3_ := Aside0.mk ((by rw [hg]; exact (below_size (by repeat (first | (with_reducible first | exact HB.out | apply below_alloc | apply pw_below_drewN | apply below_drew1 | refine below_set ?_ GE306.out) | exact HB.out))) : w.heap.size ≤ gb307)); have n4_ := Aside0.mk ((by rw [hg]; exact (below_size (by repeat (first | (with_reducible first | exact HB.out | apply below_alloc | apply pw_below_drewN | apply below_drew1 | refine below_set ?_ GE306.out) | exact HB.out))) : w.heap.size ≤ gb307)); have n5_ := Aside0.mk ((by rw [hg]; exact Nat.ne_of_lt (blk_lt (g := gb306) (o := .cells #[.int .i64 a0_0, .slice A0_1 l0_1.length c0_1, .slice A0_2 l0_2.length c0_2, .bool a0_3] 24 (0, 0)) (by (with_reducible repeat (first | refine blk_drewN ?_ _ | refine blk_drew ?_ | refine blk_alloc ?_ _)); exact BK306.out)) : gb306 ≠ gb307)); have n6_ := Aside0.mk ((by rw [hg]; exact Nat.ne_of_gt (blk_lt (g := gb306) (o := .cells #[.int .i64 a0_0, .slice A0_1 l0_1.length c0_1, .slice A0_2 l0_2.length c0_2, .bool a0_3] 24 (0, 0)) (by (with_reducible repeat (first | refine blk_drewN ?_ _ | refine blk_drew ?_ | refine blk_alloc ?_ _)); exact BK306.out)) : gb307 ≠ gb306)); clear BK306; clear HB; have BK306 := n0_; have HB := n1_; have BK307 := n2_; have GW307 := n3_; have GE307 := n4_; have NB306_307 := n5_; have NB307_306 := n6_; clear n0_ n1_ n2_ n3_ n4_ n5_ n6_; clear hb hbox hg) | ((with_reducible refine gate_dst (N := 5) rfl ?_); refine box_event ?hg (N := 5) ?hd (cs := #[.int .i64 a2_0, .int .i64 a2_1, .int .i64 a2_2]) (t := 38) ?hr ?_; (case hd => rfl); (case hg => rfl); (case hr => first | (go_simp; done) | (go_simp; rfl)); intro gb308 hg w11 hbox hb; have n0_ := Aside0.mk (blk_below (g := gb306) (o := .cells #[.int .i64 a0_0, .slice A0_1 l0_1.length c0_1, .slice A0_2 l0_2.length c0_2, .bool a0_3] 24 (0, 0)) (by (with_reducible repeat (first | refine blk_drewN ?_ _ | refine blk_drew ?_ | refine blk_alloc ?_ _)); exact BK306.out) hb); have n1_ := Aside0.mk (blk_below (g := gb307) (o := .cells #[.int .i64 a1_0, .int .i64 a1_1] 29 (0, 0)) (by (with_reducible repeat (first | refine blk_drewN ?_ _ | refine blk_drew ?_ | refine blk_alloc ?_ _)); exact BK307.out) hb); have n2_ := Aside0.mk (below_step (by repeat (first | (with_reducible first | exact HB.out | apply below_alloc | apply pw_below_drewN | apply below_drew1 | refine below_set ?_ GE306.out | refine below_set ?_ GE307.out) | exact HB.out)) hb); have n3_ := Aside0.mk (hbox); have n4_ := Aside0.mk ((by rw [hg]; exact (below_size (by repeat (first | (with_reducible first | exact HB.out | apply below_alloc | apply pw_below_drewN | apply below_drew1 | refine below_set ?_ GE306.out | refine below_set ?_ GE307.out) | exact HB.out))) : w.heap.size ≤ gb308)); have n5_ := Aside0.mk ((by rw [hg]; exact (below_size (by repeat (first | (with_reducible first | exact HB.out | apply below_alloc | apply pw_below_drewN | apply below_drew1 | refine below_set ?_ GE306.out | refine below_set ?_ GE307.out) | exact HB.out))) : w.heap.size ≤ gb308)); have n6_ := Aside0.mk ((by rw [hg]; exact Nat.ne_of_lt (blk_lt (g := gb306) (o := .cells #[.int .i64 a0_0, .slice A0_1 l0_1.length c0_1, .slice A0_2 l0_2.length c0_2, .bool a0_3] 24 (0, 0)) (by (with_reducible repeat (first | refine blk_drewN ?_ _ | refine blk_drew ?_ | refine blk_alloc ?_ _)); exact BK306.out)) : gb306 ≠ gb308)); have n7_ := Aside0.mk ((by rw [hg]; exact Nat.ne_of_gt (blk_lt (g := gb306) (o := .cells #[.int .i64 a0_0, .slice A0_1 l0_1.length c0_1, .slice A0_2 l0_2.length c0_2, .bool a0_3] 24 (0, 0)) (by (with_reducible repeat (first | refine blk_drewN ?_ _ | refine blk_drew ?_ | refine blk_alloc ?_ _)); exact BK306.out)) : gb308 ≠ gb306)); have n8_ := Aside0.mk ((by rw [hg]; exact Nat.ne_of_lt (blk_lt (g := gb307) (o := .cells #[.int .i64 a1_0, .int .i64 a1_1] 29 (0, 0)) (by (with_reducible repeat (first | refine blk_drewN ?_ _ | refine blk_drew ?_ | refine blk_alloc ?_ _)); exact BK307.out)) : gb307 ≠ gb308)); have n9_ := Aside0.mk ((by rw [hg]; exact Nat.ne_of_gt (blk_lt (g := gb307) (o := .cells #[.int .i64 a1_0, .int .i64 a1_1] 29 (0, 0)) (by (with_reducible repeat (first | refine blk_drewN ?_ _ | refine blk_drew ?_ | refine blk_alloc ?_ _)); exact BK307.out)) : gb308 ≠ gb307)); clear BK306; clear BK307; clear HB; have BK306 := n0_; have BK307 := n1_; have HB := n2_; have BK308 := n3_; have GW308 := n4_; have GE308 := n5_; have NB306_308 := n6_; have NB308_306 := n7_; have NB307_308 := n8_; have NB308_307 := n9_; clear n0_ n1_ n2_ n3_ n4_ n5_ n6_ n7_ n8_ n9_; clear hb hbox hg) | ((with_reducible refine gate_dst (N := 6) rfl ?_); refine box_event ?hg (N := 6) ?hd (cs := #[.int .i64 0, .slice none 0 0, .slice none 0 0, .bool false]) (t := 24) ?hr ?_; (case hd => rfl); (case hg => rfl); (case hr => first | (go_simp; done) | (go_simp; rfl)); intro gb309 hg w12 hbox hb; have n0_ := Aside0.mk (blk_below (g := gb306) (o := .cells #[.int .i64 a0_0, .slice A0_1 l0_1.length c0_1, .slice A0_2 l0_2.length c0_2, .bool a0_3] 24 (0, 0)) (by (with_reducible repeat (first | refine blk_drewN ?_ _ | refine blk_drew ?_ | refine blk_alloc ?_ _)); exact BK306.out) hb); have n1_ := Aside0.mk (blk_below (g := gb307) (o := .cells #[.int .i64 a1_0, .int .i64 a1_1] 29 (0, 0)) (by (with_reducible repeat (first | refine blk_drewN ?_ _ | refine blk_drew ?_ | refine blk_alloc ?_ _)); exact BK307.out) hb); have n2_ := Aside0.mk (blk_below (g := gb308) (o := .cells #[.int .i64 a2_0, .int .i64 a2_1, .int .i64 a2_2] 38 (0, 0)) (by (with_reducible repeat (first | refine blk_drewN ?_ _ | refine blk_drew ?_ | refine blk_alloc ?_ _)); exact BK308.out) hb); have n3_ := Aside0.mk (below_step (by repeat (first | (with_reducible first | exact HB.out | apply below_alloc | apply pw_below_drewN | apply below_drew1 | refine below_set ?_ GE306.out | refine below_set ?_ GE307.out | refine below_set ?_ GE308.out) | exact HB.out)) hb); have n4_ := Aside0.mk (hbox); have n5_ := Aside0.mk ((by rw [hg]; exact (below_size (by repeat (first | (with_reducible first | exact HB.out | apply below_alloc | apply pw_below_drewN | apply below_drew1 | refine below_set ?_ GE306.out | refine below_set ?_ GE307.out | refine below_set ?_ GE308.out) | exact HB.out))) : w.heap.size ≤ gb309)); have n6_ := Aside0.mk ((by rw [hg]; exact (below_size (by repeat (first | (with_reducible first | exact HB.out | apply below_alloc | apply pw_below_drewN | apply below_drew1 | refine below_set ?_ GE306.out | refine below_set ?_ GE307.out | refine below_set ?_ GE308.out) | exact HB.out))) : w.heap.size ≤ gb309)); have n7_ := Aside0.mk ((by rw [hg]; exact Nat.ne_of_lt (blk_lt (g := gb306) (o := .cells #[.int .i64 a0_0, .slice A0_1 l0_1.length c0_1, .slice A0_2 l0_2.length c0_2, .bool a0_3] 24 (0, 0)) (by (with_reducible repeat (first | refine blk_drewN ?_ _ | refine blk_drew ?_ | refine blk_alloc ?_ _)); exact BK306.out)) : gb306 ≠ gb309)); have n8_ := Aside0.mk ((by rw [hg]; exact Nat.ne_of_gt (blk_lt (g := gb306) (o := .cells #[.int .i64 a0_0, .slice A0_1 l0_1.length c0_1, .slice A0_2 l0_2.length c0_2, .bool a0_3] 24 (0, 0)) (by (with_reducible repeat (first | refine blk_drewN ?_ _ | refine blk_drew ?_ | refine blk_alloc ?_ _)); exact BK306.out)) : gb309 ≠ gb306)); have n9_ := Aside0.mk ((by rw [hg]; exact Nat.ne_of_lt (blk_lt (g := gb307) (o := .cells #[.int .i64 a1_0, .int .i64 a1_1] 29 (0, 0)) (by (with_reducible repeat (first | refine blk_drewN ?_ _ | refine blk_drew ?_ | refine blk_alloc ?_ _)); exact BK307.out)) : gb307 ≠ gb309)); have n10_ := Aside0.mk ((by rw [hg]; exact Nat.ne_of_gt (blk_lt (g := gb307) (o := .cells #[.int .i64 a1_0, .int .i64 a1_1] 29 (0, 0)) (by (with_reducible repeat (first | refine blk_drewN ?_ _ | refine blk_drew ?_ | refine blk_alloc ?_ _)); exact BK307.out)) : gb309 ≠ gb307)); have n11_ := Aside0.mk ((by rw [hg]; exact Nat.ne_of_lt (blk_lt (g := gb308) (o := .cells #[.int .i64 a2_0, .int .i64 a2_1, .int .i64 a2_2] 38 (0, 0)) (by (with_reducible repeat (first | refine blk_drewN ?_ _ | refine blk_drew ?_ | refine blk_alloc ?_ _)); exact BK308.out)) : gb308 ≠ gb309)); have n12_ := Aside0.mk ((by rw [hg]; exact Nat.ne_of_gt (blk_lt (g := gb308) (o := .cells #[.int .i64 a2_0, .int .i64 a2_1, .int .i64 a2_2] 38 (0, 0)) (by (with_reducible repeat (first | refine blk_drewN ?_ _ | refine blk_drew ?_ | refine blk_alloc ?_ _)); exact BK308.out)) : gb309 ≠ gb308)); clear BK306; clear BK307; clear BK308; clear HB; have BK306 := n0_; have BK307 := n1_; have BK308 := n2_; have HB := n3_; have BK309 := n4_; have GW309 := n5_; have GE309 := n6_; have NB306_309 := n7_; have NB309_306 := n8_; have NB307_309 := n9_; have NB309_307 := n10_; have NB308_309 := n11_; have NB309_308 := n12_; clear n0_ n1_ n2_ n3_ n4_ n5_ n6_ n7_ n8_ n9_ n10_ n11_ n12_; clear hb hbox hg; have hnb13 := NB306_307.out; have hnc13 := NB307_306.out; have hnb14 := NB306_308.out; have hnc14 := NB308_306.out; have hnb15 := NB306_309.out; have hnc15 := NB309_306.out; have hcz16_0 : w12.cell? ⟨gb306, 0, none⟩ = some (.int .i64 a0_0) := (blk_cell BK306.out 0).trans rfl; have hcz16_1 : w12.cell? ⟨gb306, 1, none⟩ = some (.slice A0_1 l0_1.length c0_1) := (blk_cell BK306.out 1).trans rfl; have hcz16_2 : w12.cell? ⟨gb306, 2, none⟩ = some (.slice A0_2 l0_2.length c0_2) := (blk_cell BK306.out 2).trans rfl; have hcz16_3 : w12.cell? ⟨gb306, 3, none⟩ = some (.bool a0_3) := (blk_cell BK306.out 3).trans rfl; have hfz16_0 := blk_frozen BK306.out 0; have hfz16_1 := blk_frozen BK306.out 1; have hfz16_2 := blk_frozen BK306.out 2; have hfz16_3 := blk_frozen BK306.out 3) | ((with_reducible refine gate_callee (f := 65) rfl ?_); refine goesL_ (some 9) rfl rfl Tryd.func65 (by kernel_rfl) rfl #[.agg #[.int .i64 a0_0, .slice A0_1 l0_1.length c0_1, .slice A0_2 l0_2.length c0_2, .bool a0_3]] rfl (by (try simp only [List.map_toArray, List.map_cons, List.map_nil]); first | done | rfl | (simp only [List.length_drop, List.length_take]; rfl)) ?_; (with_reducible refine (winnowref19_Copied.calls a0_0 _ _ l0_1 _ _ l0_2 a0_3 t310 t311 t314 t317 _ ?side1 ?side2 ?side3 ?side4 A4.out).mono ?_); (case side1 => repeat (first | exact (Kd.C_below HR0_1.out HB.out) | (with_reducible refine Kd.C_alloc ?_ _) | (with_reducible refine Kd.C_drewN ?_ _) | (with_reducible refine Kd.C_drew ?_))); (case side2 => exact HC0_1.out); (case side3 => repeat (first | exact (Kd.C_below HR0_2.out HB.out) | (with_reducible refine Kd.C_alloc ?_ _) | (with_reducible refine Kd.C_drewN ?_ _) | (with_reducible refine Kd.C_drew ?_))); (case side4 => exact HC0_2.out); rintro e w17 ⟨v312, v315, rfl, ho0, ho1, hb⟩; refine ⟨_, rfl, ?_⟩; have n0_ := Aside0.mk (Kd.R_lower (Kd.R_newB ho0 (g := gb308) (o := .cells #[.int .i64 a2_0, .int .i64 a2_1, .int .i64 a2_2] 38 (0, 0)) (by (with_reducible repeat (first | refine blk_drewN ?_ _ | refine blk_drew ?_ | refine blk_alloc ?_ _)); exact BK308.out)) (below_size (by repeat (first | (with_reducible first | exact HB.out | apply below_alloc | apply pw_below_drewN | apply below_drew1 | refine below_set ?_ GE306.out | refine below_set ?_ GE307.out | refine below_set ?_ GE308.out | refine below_set ?_ GE309.out) | exact HB.out)))); have n1_ := Aside0.mk (Kd.R_lower (Kd.R_newB ho1 (g := gb308) (o := .cells #[.int .i64 a2_0, .int .i64 a2_1, .int .i64 a2_2] 38 (0, 0)) (by (with_reducible repeat (first | refine blk_drewN ?_ _ | refine blk_drew ?_ | refine blk_alloc ?_ _)); exact BK308.out)) (below_size (by repeat (first | (with_reducible first | exact HB.out | apply below_alloc | apply pw_below_drewN | apply below_drew1 | refine below_set ?_ GE306.out | refine below_set ?_ GE307.out | refine below_set ?_ GE308.out | refine below_set ?_ GE309.out) | exact HB.out)))); have n2_ := Aside0.mk (blk_below (g := gb306) (o := .cells #[.int .i64 a0_0, .slice A0_1 l0_1.length c0_1, .slice A0_2 l0_2.length c0_2, .bool a0_3] 24 (0, 0)) (by (with_reducible repeat (first | refine blk_drewN ?_ _ | refine blk_drew ?_ | refine blk_alloc ?_ _)); exact BK306.out) hb); have n3_ := Aside0.mk (blk_below (g := gb307) (o := .cells #[.int .i64 a1_0, .int .i64 a1_1] 29 (0, 0)) (by (with_reducible repeat (first | refine blk_drewN ?_ _ | refine blk_drew ?_ | refine blk_alloc ?_ _)); exact BK307.out) hb); have n4_ := Aside0.mk (blk_below (g := gb308) (o := .cells #[.int .i64 a2_0, .int .i64 a2_1, .int .i64 a2_2] 38 (0, 0)) (by (with_reducible repeat (first | refine blk_drewN ?_ _ | refine blk_drew ?_ | refine blk_alloc ?_ _)); exact BK308.out) hb); have n5_ := Aside0.mk (blk_below (g := gb309) (o := .cells #[.int .i64 0, .slice none 0 0, .slice none 0 0, .bool false] 24 (0, 0)) (by (with_reducible repeat (first | refine blk_drewN ?_ _ | refine blk_drew ?_ | refine blk_alloc ?_ _)); exact BK309.out) hb); have n6_ := Aside0.mk (below_step (by repeat (first | (with_reducible first | exact HB.out | apply below_alloc | apply pw_below_drewN | apply below_drew1 | refine below_set ?_ GE306.out | refine below_set ?_ GE307.out | refine below_set ?_ GE308.out | refine below_set ?_ GE309.out) | exact HB.out)) hb); clear BK306; clear BK307; clear BK308; clear BK309; clear HB; have HO313 := n0_; have HO316 := n1_; have BK306 := n2_; have BK307 := n3_; have BK308 := n4_; have BK309 := n5_; have HB := n6_; clear n0_ n1_ n2_ n3_ n4_ n5_ n6_; (try clear hb); (try clear hb2); (try clear hk); (try clear hi); (try clear ho0); (try clear ho1)) | ((with_reducible refine gate_dst (N := 7) rfl ?_); refine box_event ?hg (N := 7) ?hd (cs := #[.int .i64 0, .slice none 0 0, .slice none 0 0, .bool false]) (t := 24) ?hr ?_; (case hd => rfl); (case hg => rfl); (case hr => first | (go_simp; done) | (go_simp; rfl)); intro gb318 hg w18 hbox hb; have n0_ := Aside0.mk (Kd.R_below (by (with_reducible repeat (first | apply Kd.R_alloc | apply Kd.R_drewN | apply Kd.R_drew)); exact HO313.out) hb); have n1_ := Aside0.mk (Kd.R_below (by (with_reducible repeat (first | apply Kd.R_alloc | apply Kd.R_drewN | apply Kd.R_drew)); exact HO316.out) hb); have n2_ := Aside0.mk (blk_below (g := gb306) (o := .cells #[.int .i64 a0_0, .slice A0_1 l0_1.length c0_1, .slice A0_2 l0_2.length c0_2, .bool a0_3] 24 (0, 0)) (by (with_reducible repeat (first | refine blk_drewN ?_ _ | refine blk_drew ?_ | refine blk_alloc ?_ _)); exact BK306.out) hb); have n3_ := Aside0.mk (blk_below (g := gb307) (o := .cells #[.int .i64 a1_0, .int .i64 a1_1] 29 (0, 0)) (by (with_reducible repeat (first | refine blk_drewN ?_ _ | refine blk_drew ?_ | refine blk_alloc ?_ _)); exact BK307.out) hb); have n4_ := Aside0.mk (blk_below (g := gb308) (o := .cells #[.int .i64 a2_0, .int .i64 a2_1, .int .i64 a2_2] 38 (0, 0)) (by (with_reducible repeat (first | refine blk_drewN ?_ _ | refine blk_drew ?_ | refine blk_alloc ?_ _)); exact BK308.out) hb); have n5_ := Aside0.mk (blk_below (g := gb309) (o := .cells #[.int .i64 0, .slice none 0 0, .slice none 0 0, .bool false] 24 (0, 0)) (by (with_reducible repeat (first | refine blk_drewN ?_ _ | refine blk_drew ?_ | refine blk_alloc ?_ _)); exact BK309.out) hb); have n6_ := Aside0.mk (below_step (by repeat (first | (with_reducible first | exact HB.out | apply below_alloc | apply pw_below_drewN | apply below_drew1 | refine below_set ?_ GE306.out | refine below_set ?_ GE307.out | refine below_set ?_ GE308.out | refine below_set ?_ GE309.out) | exact HB.out)) hb); have n7_ := Aside0.mk (hbox); have n8_ := Aside0.mk ((by rw [hg]; exact (below_size (by repeat (first | (with_reducible first | exact HB.out | apply below_alloc | apply pw_below_drewN | apply below_drew1 | refine below_set ?_ GE306.out | refine below_set ?_ GE307.out | refine below_set ?_ GE308.out | refine below_set ?_ GE309.out) | exact HB.out))) : w.heap.size ≤ gb318)); have n9_ := Aside0.mk ((by rw [hg]; exact (below_size (by repeat (first | (with_reducible first | exact HB.out | apply below_alloc | apply pw_below_drewN | apply below_drew1 | refine below_set ?_ GE306.out | refine below_set ?_ GE307.out | refine below_set ?_ GE308.out | refine below_set ?_ GE309.out) | exact HB.out))) : w.heap.size ≤ gb318)); have n10_ := Aside0.mk ((by rw [hg]; exact Nat.ne_of_lt (blk_lt (g := gb306) (o := .cells #[.int .i64 a0_0, .slice A0_1 l0_1.length c0_1, .slice A0_2 l0_2.length c0_2, .bool a0_3] 24 (0, 0)) (by (with_reducible repeat (first | refine blk_drewN ?_ _ | refine blk_drew ?_ | refine blk_alloc ?_ _)); exact BK306.out)) : gb306 ≠ gb318)); have n11_ := Aside0.mk ((by rw [hg]; exact Nat.ne_of_gt (blk_lt (g := gb306) (o := .cells #[.int .i64 a0_0, .slice A0_1 l0_1.length c0_1, .slice A0_2 l0_2.length c0_2, .bool a0_3] 24 (0, 0)) (by (with_reducible repeat (first | refine blk_drewN ?_ _ | refine blk_drew ?_ | refine blk_alloc ?_ _)); exact BK306.out)) : gb318 ≠ gb306)); have n12_ := Aside0.mk ((by rw [hg]; exact Nat.ne_of_lt (blk_lt (g := gb307) (o := .cells #[.int .i64 a1_0, .int .i64 a1_1] 29 (0, 0)) (by (with_reducible repeat (first | refine blk_drewN ?_ _ | refine blk_drew ?_ | refine blk_alloc ?_ _)); exact BK307.out)) : gb307 ≠ gb318)); have n13_ := Aside0.mk ((by rw [hg]; exact Nat.ne_of_gt (blk_lt (g := gb307) (o := .cells #[.int .i64 a1_0, .int .i64 a1_1] 29 (0, 0)) (by (with_reducible repeat (first | refine blk_drewN ?_ _ | refine blk_drew ?_ | refine blk_alloc ?_ _)); exact BK307.out)) : gb318 ≠ gb307)); have n14_ := Aside0.mk ((by rw [hg]; exact Nat.ne_of_lt (blk_lt (g := gb308) (o := .cells #[.int .i64 a2_0, .int .i64 a2_1, .int .i64 a2_2] 38 (0, 0)) (by (with_reducible repeat (first | refine blk_drewN ?_ _ | refine blk_drew ?_ | refine blk_alloc ?_ _)); exact BK308.out)) : gb308 ≠ gb318)); have n15_ := Aside0.mk ((by rw [hg]; exact Nat.ne_of_gt (blk_lt (g := gb308) (o := .cells #[.int .i64 a2_0, .int .i64 a2_1, .int .i64 a2_2] 38 (0, 0)) (by (with_reducible repeat (first | refine blk_drewN ?_ _ | refine blk_drew ?_ | refine blk_alloc ?_ _)); exact BK308.out)) : gb318 ≠ gb308)); have n16_ := Aside0.mk ((by rw [hg]; exact Nat.ne_of_lt (blk_lt (g := gb309) (o := .cells #[.int .i64 0, .slice none 0 0, .slice none 0 0, .bool false] 24 (0, 0)) (by (with_reducible repeat (first | refine blk_drewN ?_ _ | refine blk_drew ?_ | refine blk_alloc ?_ _)); exact BK309.out)) : gb309 ≠ gb318)); have n17_ := Aside0.mk ((by rw [hg]; exact Nat.ne_of_gt (blk_lt (g := gb309) (o := .cells #[.int .i64 0, .slice none 0 0, .slice none 0 0, .bool false] 24 (0, 0)) (by (with_reducible repeat (first | refine blk_drewN ?_ _ | refine blk_drew ?_ | refine blk_alloc ?_ _)); exact BK309.out)) : gb318 ≠ gb309)); clear HO313; clear HO316; clear BK306; clear BK307; clear BK308; clear BK309; clear HB; have HO313 := n0_; have HO316 := n1_; have BK306 := n2_; have BK307 := n3_; have BK308 := n4_; have BK309 := n5_; have HB := n6_; have BK318 := n7_; have GW318 := n8_; have GE318 := n9_; have NB306_318 := n10_; have NB318_306 := n11_; have NB307_318 := n12_; have NB318_307 := n13_; have NB308_318 := n14_; have NB318_308 := n15_; have NB309_318 := n16_; have NB318_309 := n17_; clear n0_ n1_ n2_ n3_ n4_ n5_ n6_ n7_ n8_ n9_ n10_ n11_ n12_ n13_ n14_ n15_ n16_ n17_; clear hb hbox hg; have hnb19 := NB318_306.out; have hnc19 := NB306_318.out; have hnb20 := NB318_307.out; have hnc20 := NB307_318.out; have hnb21 := NB318_308.out; have hnc21 := NB308_318.out; have hnb22 := NB318_309.out; have hnc22 := NB309_318.out; have hcz23_0 : w18.cell? ⟨gb318, 0, none⟩ = some (.int .i64 0) := (blk_cell BK318.out 0).trans rfl; have hcz23_1 : w18.cell? ⟨gb318, 1, none⟩ = some (.slice none 0 0) := (blk_cell BK318.out 1).trans rfl; have hcz23_2 : w18.cell? ⟨gb318, 2, none⟩ = some (.slice none 0 0) := (blk_cell BK318.out 2).trans rfl; have hcz23_3 : w18.cell? ⟨gb318, 3, none⟩ = some (.bool false) := (blk_cell BK318.out 3).trans rfl; have hfz23_0 := blk_frozen BK318.out 0; have hfz23_1 := blk_frozen BK318.out 1; have hfz23_2 := blk_frozen BK318.out 2; have hfz23_3 := blk_frozen BK318.out 3; obtain ⟨Ao24, co24, eo24⟩ := Kd.R_slice HO313.out; subst eo24; obtain ⟨Ao25, co25, eo25⟩ := Kd.R_slice HO316.out; subst eo25) | ((with_reducible refine gate_store (t := 24) (p := 7) rfl ?_); refine store_event (t := 24) (p := 7) (v := ?vo_w26) (w1 := ((((w18.setCell ⟨gb318, 0, none⟩ (.int .i64 t310)).setCell ⟨gb318, 1, none⟩ (.slice Ao24 t311.length co24)).setCell ⟨gb318, 2, none⟩ (.slice Ao25 t314.length co25)).setCell ⟨gb318, 3, none⟩ (.bool t317))) ?hg ?ho ?hn ?hr ?_; (case ho => rfl); (case hg => rfl); (case hn => rfl); (case hr => first | (go_simp; done) | (go_simp; rfl)); intro w26 hw; have n0_ : Aside0 (Kd.R k38 38 w26 w.heap.size (fun k_ => some k_ ≠ (.slice Ao25 t314.length co25 : Value).ownBlock ∧ k_ ≠ gb308) (.slice Ao24 t311.length co24) t311) := ⟨(by rw [hw]; exact (by (with_reducible repeat (first | apply Kd.R_alloc | apply Kd.R_drewN | apply Kd.R_drew)); exact Kd.R_mono (Kd.R_far (p := ⟨gb318, 3, none⟩) (Kd.R_far (p := ⟨gb318, 2, none⟩) (Kd.R_far (p := ⟨gb318, 1, none⟩) (Kd.R_far (p := ⟨gb318, 0, none⟩) (Kd.R_types HO313.out BK318.out (by decide)) (fun _ hk => hk.2) (.int .i64 t310)) (fun _ hk => hk.2) (.slice Ao24 t311.length co24)) (fun _ hk => hk.2) (.slice Ao25 t314.length co25)) (fun _ hk => hk.2) (.bool t317)) (fun _ hk => ⟨hk.1.1, hk.1.2⟩)))⟩; have n1_ : Aside0 (Kd.R k38 38 w26 w.heap.size (fun k_ => some k_ ≠ (.slice Ao24 t311.length co24 : Value).ownBlock ∧ k_ ≠ gb308) (.slice Ao25 t314.length co25) t314) := ⟨(by rw [hw]; exact (by (with_reducible repeat (first | apply Kd.R_alloc | apply Kd.R_drewN | apply Kd.R_drew)); exact Kd.R_mono (Kd.R_far (p := ⟨gb318, 3, none⟩) (Kd.R_far (p := ⟨gb318, 2, none⟩) (Kd.R_far (p := ⟨gb318, 1, none⟩) (Kd.R_far (p := ⟨gb318, 0, none⟩) (Kd.R_types HO316.out BK318.out (by decide)) (fun _ hk => hk.2) (.int .i64 t310)) (fun _ hk => hk.2) (.slice Ao24 t311.length co24)) (fun _ hk => hk.2) (.slice Ao25 t314.length co25)) (fun _ hk => hk.2) (.bool t317)) (fun _ hk => ⟨hk.1.1, hk.1.2⟩)))⟩; have n2_ : Aside0 (w26.heap[gb306]? = some (.cells #[.int .i64 a0_0, .slice A0_1 l0_1.length c0_1, .slice A0_2 l0_2.length c0_2, .bool a0_3] 24 (0, 0))) := ⟨(by rw [hw]; exact (by (with_reducible repeat (first | refine blk_drewN ?_ _ | refine blk_drew ?_ | refine blk_alloc ?_ _)); refine blk_far ?_ NB306_318.out _; (with_reducible repeat (first | refine blk_drewN ?_ _ | refine blk_drew ?_ | refine blk_alloc ?_ _)); refine blk_far ?_ NB306_318.out _; (with_reducible repeat (first | refine blk_drewN ?_ _ | refine blk_drew ?_ | refine blk_alloc ?_ _)); refine blk_far ?_ NB306_318.out _; (with_reducible repeat (first | refine blk_drewN ?_ _ | refine blk_drew ?_ | refine blk_alloc ?_ _)); refine blk_far ?_ NB306_318.out _; (with_reducible repeat (first | refine blk_drewN ?_ _ | refine blk_drew ?_ | refine blk_alloc ?_ _)); exact BK306.out))⟩; have n3_ : Aside0 (w26.heap[gb307]? = some (.cells #[.int .i64 a1_0, .int .i64 a1_1] 29 (0, 0))) := ⟨(by rw [hw]; exact (by (with_reducible repeat (first | refine blk_drewN ?_ _ | refine blk_drew ?_ | refine blk_alloc ?_ _)); refine blk_far ?_ NB307_318.out _; (with_reducible repeat (first | refine blk_drewN ?_ _ | refine blk_drew ?_ | refine blk_alloc ?_ _)); refine blk_far ?_ NB307_318.out _; (with_reducible repeat (first | refine blk_drewN ?_ _ | refine blk_drew ?_ | refine blk_alloc ?_ _)); refine blk_far ?_ NB307_318.out _; (with_reducible repeat (first | refine blk_drewN ?_ _ | refine blk_drew ?_ | refine blk_alloc ?_ _)); refine blk_far ?_ NB307_318.out _; (with_reducible repeat (first | refine blk_drewN ?_ _ | refine blk_drew ?_ | refine blk_alloc ?_ _)); exact BK307.out))⟩; have n4_ : Aside0 (w26.heap[gb308]? = some (.cells #[.int .i64 a2_0, .int .i64 a2_1, .int .i64 a2_2] 38 (0, 0))) := ⟨(by rw [hw]; exact (by (with_reducible repeat (first | refine blk_drewN ?_ _ | refine blk_drew ?_ | refine blk_alloc ?_ _)); refine blk_far ?_ NB308_318.out _; (with_reducible repeat (first | refine blk_drewN ?_ _ | refine blk_drew ?_ | refine blk_alloc ?_ _)); refine blk_far ?_ NB308_318.out _; (with_reducible repeat (first | refine blk_drewN ?_ _ | refine blk_drew ?_ | refine blk_alloc ?_ _)); refine blk_far ?_ NB308_318.out _; (with_reducible repeat (first | refine blk_drewN ?_ _ | refine blk_drew ?_ | refine blk_alloc ?_ _)); refine blk_far ?_ NB308_318.out _; (with_reducible repeat (first | refine blk_drewN ?_ _ | refine blk_drew ?_ | refine blk_alloc ?_ _)); exact BK308.out))⟩; have n5_ : Aside0 (w26.heap[gb309]? = some (.cells #[.int .i64 0, .slice none 0 0, .slice none 0 0, .bool false] 24 (0, 0))) := ⟨(by rw [hw]; exact (by (with_reducible repeat (first | refine blk_drewN ?_ _ | refine blk_drew ?_ | refine blk_alloc ?_ _)); refine blk_far ?_ NB309_318.out _; (with_reducible repeat (first | refine blk_drewN ?_ _ | refine blk_drew ?_ | refine blk_alloc ?_ _)); refine blk_far ?_ NB309_318.out _; (with_reducible repeat (first | refine blk_drewN ?_ _ | refine blk_drew ?_ | refine blk_alloc ?_ _)); refine blk_far ?_ NB309_318.out _; (with_reducible repeat (first | refine blk_drewN ?_ _ | refine blk_drew ?_ | refine blk_alloc ?_ _)); refine blk_far ?_ NB309_318.out _; (with_reducible repeat (first | refine blk_drewN ?_ _ | refine blk_drew ?_ | refine blk_alloc ?_ _)); exact BK309.out))⟩; have n6_ : Aside0 (w26.heap[gb318]? = some (.cells #[.int .i64 t310, .slice Ao24 t311.length co24, .slice Ao25 t314.length co25, .bool t317] 24 (0, 0))) := ⟨(by rw [hw]; exact (by (with_reducible repeat (first | refine blk_drewN ?_ _ | refine blk_drew ?_ | refine blk_alloc ?_ _)); refine blk_put (cs := #[.int .i64 t310, .slice Ao24 t311.length co24, .slice Ao25 t314.length co25, .bool false]) ?_ 3 _ rfl; (with_reducible repeat (first | refine blk_drewN ?_ _ | refine blk_drew ?_ | refine blk_alloc ?_ _)); refine blk_put (cs := #[.int .i64 t310, .slice Ao24 t311.length co24, .slice none 0 0, .bool false]) ?_ 2 _ rfl; (with_reducible repeat (first | refine blk_drewN ?_ _ | refine blk_drew ?_ | refine blk_alloc ?_ _)); refine blk_put (cs := #[.int .i64 t310, .slice none 0 0, .slice none 0 0, .bool false]) ?_ 1 _ rfl; (with_reducible repeat (first | refine blk_drewN ?_ _ | refine blk_drew ?_ | refine blk_alloc ?_ _)); refine blk_put (cs := #[.int .i64 0, .slice none 0 0, .slice none 0 0, .bool false]) ?_ 0 _ rfl; (with_reducible repeat (first | refine blk_drewN ?_ _ | refine blk_drew ?_ | refine blk_alloc ?_ _)); exact BK318.out))⟩; have n7_ : Aside0 (Below w.heap.size w w26) := ⟨(by rw [hw]; exact (by repeat (first | (with_reducible first | exact HB.out | apply below_alloc | apply pw_below_drewN | apply below_drew1 | refine below_set ?_ GE306.out | refine below_set ?_ GE307.out | refine below_set ?_ GE308.out | refine below_set ?_ GE309.out | refine below_set ?_ GE318.out) | exact HB.out)))⟩; clear hw; clear HO313; clear HO316; clear BK306; clear BK307; clear BK308; clear BK309; clear BK318; clear HB; have HO313 := n0_; have HO316 := n1_; have BK306 := n2_; have BK307 := n3_; have BK308 := n4_; have BK309 := n5_; have BK318 := n6_; have HB := n7_; clear n0_ n1_ n2_ n3_ n4_ n5_ n6_ n7_; have hnb27 := NB307_308.out; have hnc27 := NB308_307.out; have hnb28 := NB307_309.out; have hnc28 := NB309_307.out; have hcz29_0 : w26.cell? ⟨gb307, 0, none⟩ = some (.int .i64 a1_0) := (blk_cell BK307.out 0).trans rfl; have hcz29_1 : w26.cell? ⟨gb307, 1, none⟩ = some (.int .i64 a1_1) := (blk_cell BK307.out 1).trans rfl; have hfz29_0 := blk_frozen BK307.out 0; have hfz29_1 := blk_frozen BK307.out 1; have hcz30_0 : w26.cell? ⟨gb318, 0, none⟩ = some (.int .i64 t310) := (blk_cell BK318.out 0).trans rfl; have hcz30_1 : w26.cell? ⟨gb318, 1, none⟩ = some (.slice Ao24 t311.length co24) := (blk_cell BK318.out 1).trans rfl; have hcz30_2 : w26.cell? ⟨gb318, 2, none⟩ = some (.slice Ao25 t314.length co25) := (blk_cell BK318.out 2).trans rfl; have hcz30_3 : w26.cell? ⟨gb318, 3, none⟩ = some (.bool t317) := (blk_cell BK318.out 3).trans rfl; have hfz30_0 := blk_frozen BK318.out 0; have hfz30_1 := blk_frozen BK318.out 1; have hfz30_2 := blk_frozen BK318.out 2; have hfz30_3 := blk_frozen BK318.out 3; have hnb31 := NB308_309.out; have hnc31 := NB309_308.out; have hcz32_0 : w26.cell? ⟨gb308, 0, none⟩ = some (.int .i64 a2_0) := (blk_cell BK308.out 0).trans rfl; have hcz32_1 : w26.cell? ⟨gb308, 1, none⟩ = some (.int .i64 a2_1) := (blk_cell BK308.out 1).trans rfl; have hcz32_2 : w26.cell? ⟨gb308, 2, none⟩ = some (.int .i64 a2_2) := (blk_cell BK308.out 2).trans rfl; have hfz32_0 := blk_frozen BK308.out 0; have hfz32_1 := blk_frozen BK308.out 1; have hfz32_2 := blk_frozen BK308.out 2; have p8 : 0 ≤ (a1_1 : Int) := of_decide_eq_true (by first | (with_reducible assumption) | assumption); have q8 : (a1_1 : Int) < ((t311.length : Int) : Int) := of_decide_eq_true (by first | (with_reducible assumption) | assumption); obtain ⟨go8, co8, eo8, gb8, gl8, cl8, HG8⟩ := Kd.R_form HO313.out (by omega); (first | cases eo8 | (injection eo8 with ea_ en_ ec_; (first | subst ea_ | (injection ea_ with ea_; subst ea_)); subst ec_; clear en_)); have GB8 := Aside0.mk gb8; have GG8 := Aside0.mk HG8; clear gb8 gl8 HG8; obtain ⟨ce8, hcl8, hM8, hcc8, hfr8⟩ := Kd.R_elem HO313.out z38 (a1_1 : Int) p8 q8; obtain rfl := k38_openM hM8; have hx8_0 : w26.cell? ⟨go8, (a1_1 : Int).toNat * 3, none⟩ = some (.int .i64 ((rd_T38 t311 a1_1).f0)) := hcc8 0 _ rfl; have hx8_1 : w26.cell? ⟨go8, (a1_1 : Int).toNat * 3 + 1, none⟩ = some (.int .i64 ((rd_T38 t311 a1_1).f1)) := hcc8 1 _ rfl; have hx8_2 : w26.cell? ⟨go8, (a1_1 : Int).toNat * 3 + 2, none⟩ = some (.int .i64 ((rd_T38 t311 a1_1).f2)) := hcc8 2 _ rfl; have hf8_0 : w26.frozen? ⟨go8, (a1_1 : Int).toNat * 3, none⟩ = false := hfr8 0; have hf8_1 : w26.frozen? ⟨go8, (a1_1 : Int).toNat * 3 + 1, none⟩ = false := hfr8 1; have hf8_2 : w26.frozen? ⟨go8, (a1_1 : Int).toNat * 3 + 2, none⟩ = false := hfr8 2; clear hcl8 hcc8 hfr8 hM8; replace p8 := eq_true p8; replace q8 := eq_true q8; have HX33 := Aside0.mk (show Kd.R k38 38 w26 w.heap.size (fun k_ => some k_ ≠ (.slice Ao25 t314.length co25 : Value).ownBlock ∧ k_ ≠ gb308) (.slice (some ⟨go8, 0, none⟩) t311.length co24) t311 from (by (with_reducible repeat (first | apply Kd.R_alloc | apply Kd.R_drewN | apply Kd.R_drew)); exact HO313.out)); obtain ⟨ce33, hcl33, hM33, hcc33, hfr33⟩ := Kd.R_elem HX33.out z38 (a1_1 : Int) (of_decide_eq_true (by first | (with_reducible assumption) | assumption)) (by have h_ : (a1_1 : Int) < ((t311.length : Int) : Int) := of_decide_eq_true (by first | (with_reducible assumption) | assumption); first | exact h_ | (have e_ := (Kd.R_reads' HO313.out).1; omega) | simpa using h_); obtain rfl := k38_openM hM33; have HP33 := Kd.R_seg HX33.out (a1_1 : Int) (of_decide_eq_true (by first | (with_reducible assumption) | assumption)) (by have h_ : (a1_1 : Int) < ((t311.length : Int) : Int) := of_decide_eq_true (by first | (with_reducible assumption) | assumption); first | exact h_ | (have e_ := (Kd.R_reads' HO313.out).1; omega) | simpa using h_) (seg := [.int .i64 a2_0, .int .i64 a2_1, .int .i64 a2_2]) (j := 0) hcl33 hcc33 (show 3 ≤ 3 from by decide) (x' := (⟨a2_0, a2_1, a2_2⟩ : S38)) (k38_mkM _ _ _ (⟨a2_0, a2_1, a2_2⟩ : S38) ) (fun _ hk => hk); have hx33_0 := hcc33 0 _ rfl; (try simp only [show (k38).sz = 3 from rfl, Nat.mul_one, Nat.add_zero] at hx33_0); have hf33_0 := hfr33 0; (try simp only [show (k38).sz = 3 from rfl, Nat.mul_one, Nat.add_zero] at hf33_0); have hx33_1 := hcc33 1 _ rfl; (try simp only [show (k38).sz = 3 from rfl, Nat.mul_one, Nat.add_zero] at hx33_1); have hf33_1 := hfr33 1; (try simp only [show (k38).sz = 3 from rfl, Nat.mul_one, Nat.add_zero] at hf33_1); have hx33_2 := hcc33 2 _ rfl; (try simp only [show (k38).sz = 3 from rfl, Nat.mul_one, Nat.add_zero] at hx33_2); have hf33_2 := hfr33 2; (try simp only [show (k38).sz = 3 from rfl, Nat.mul_one, Nat.add_zero] at hf33_2); clear hcl33 hcc33 hfr33 hM33) | ((with_reducible refine gate_store (t := 38) (p := 18) rfl ?_); refine store_event (t := 38) (p := 18) (v := ?vo_w34) (w1 := (((w26.setCell ⟨go8, (a1_1 : Int).toNat * 3, none⟩ (.int .i64 a2_0)).setCell ⟨go8, (a1_1 : Int).toNat * 3 + 1, none⟩ (.int .i64 a2_1)).setCell ⟨go8, (a1_1 : Int).toNat * 3 + 2, none⟩ (.int .i64 a2_2))) ?hg ?ho ?hn ?hr ?_; (case ho => rfl); (case hg => rfl); (case hn => rfl); (case hr => first | (go_simp; done) | (go_simp; rfl)); intro w34 hw; have hg : w26.grownBy w34 (some go8) := (by rw [hw]; exact HP33.2); have hp_ : Kd.R k38 38 w34 w.heap.size (fun k_ => some k_ ≠ (.slice Ao25 t314.length co25 : Value).ownBlock ∧ k_ ≠ gb308) (.slice (some ⟨go8, 0, none⟩) t311.length co24) y319 := (by rw [hw, Ny319.out]; exact HP33.1); clear HP33; have n0_ := Aside0.mk (blk_grown (g := gb306) (o := .cells #[.int .i64 a0_0, .slice A0_1 l0_1.length c0_1, .slice A0_2 l0_2.length c0_2, .bool a0_3] 24 (0, 0)) (by (with_reducible repeat (first | refine blk_drewN ?_ _ | refine blk_drew ?_ | refine blk_alloc ?_ _)); exact BK306.out) hg (Kd.R_ne HO313.out BK306.out (by decide))); have n1_ := Aside0.mk (blk_grown (g := gb307) (o := .cells #[.int .i64 a1_0, .int .i64 a1_1] 29 (0, 0)) (by (with_reducible repeat (first | refine blk_drewN ?_ _ | refine blk_drew ?_ | refine blk_alloc ?_ _)); exact BK307.out) hg (Kd.R_ne HO313.out BK307.out (by decide))); have n2_ := Aside0.mk (blk_grown (g := gb308) (o := .cells #[.int .i64 a2_0, .int .i64 a2_1, .int .i64 a2_2] 38 (0, 0)) (by (with_reducible repeat (first | refine blk_drewN ?_ _ | refine blk_drew ?_ | refine blk_alloc ?_ _)); exact BK308.out) hg (Kd.R_away HO313.out (fun _ hk => hk.2))); have n3_ := Aside0.mk (blk_grown (g := gb309) (o := .cells #[.int .i64 0, .slice none 0 0, .slice none 0 0, .bool false] 24 (0, 0)) (by (with_reducible repeat (first | refine blk_drewN ?_ _ | refine blk_drew ?_ | refine blk_alloc ?_ _)); exact BK309.out) hg (Kd.R_ne HO313.out BK309.out (by decide))); have n4_ := Aside0.mk (hp_); have n5_ := Aside0.mk (Kd.R_after (v := (.slice (some ⟨go8, 0, none⟩) t311.length co24)) (v1 := (.slice (some ⟨go8, 0, none⟩) t311.length co24)) (ok := (fun k_ => k_ ≠ gb308)) (by (with_reducible repeat (first | apply Kd.R_alloc | apply Kd.R_drewN | apply Kd.R_drew)); exact Kd.R_mono HO316.out (fun _ hk => ⟨hk.2, hk.1⟩)) hg (.inl rfl)); have n6_ := Aside0.mk (blk_grown (g := gb318) (o := .cells #[.int .i64 t310, .slice (some ⟨go8, 0, none⟩) t311.length co24, .slice Ao25 t314.length co25, .bool t317] 24 (0, 0)) (by (with_reducible repeat (first | refine blk_drewN ?_ _ | refine blk_drew ?_ | refine blk_alloc ?_ _)); exact BK318.out) hg (Kd.R_ne HO313.out BK318.out (by decide))); have n7_ := Aside0.mk ((by rw [hw]; exact below_set (below_set (below_set (HB.out) GB8.out) GB8.out) GB8.out : Below w.heap.size w w34)); clear BK306; clear BK307; clear BK308; clear BK309; clear HO313; clear HO316; clear BK318; clear HB; have BK306 := n0_; have BK307 := n1_; have BK308 := n2_; have BK309 := n3_; have HO313 := n4_; have HO316 := n5_; have BK318 := n6_; have HB := n7_; clear n0_ n1_ n2_ n3_ n4_ n5_ n6_ n7_; clear hg hw hp_; have hcz35_0 : w34.cell? ⟨gb318, 0, none⟩ = some (.int .i64 t310) := (blk_cell BK318.out 0).trans rfl; have hcz35_1 : w34.cell? ⟨gb318, 1, none⟩ = some (.slice (some ⟨go8, 0, none⟩) t311.length co24) := (blk_cell BK318.out 1).trans rfl; have hcz35_2 : w34.cell? ⟨gb318, 2, none⟩ = some (.slice Ao25 t314.length co25) := (blk_cell BK318.out 2).trans rfl; have hcz35_3 : w34.cell? ⟨gb318, 3, none⟩ = some (.bool t317) := (blk_cell BK318.out 3).trans rfl; have hfz35_0 := blk_frozen BK318.out 0; have hfz35_1 := blk_frozen BK318.out 1; have hfz35_2 := blk_frozen BK318.out 2; have hfz35_3 := blk_frozen BK318.out 3; have hcz36_0 : w34.cell? ⟨gb309, 0, none⟩ = some (.int .i64 0) := (blk_cell BK309.out 0).trans rfl; have hcz36_1 : w34.cell? ⟨gb309, 1, none⟩ = some (.slice none 0 0) := (blk_cell BK309.out 1).trans rfl; have hcz36_2 : w34.cell? ⟨gb309, 2, none⟩ = some (.slice none 0 0) := (blk_cell BK309.out 2).trans rfl; have hcz36_3 : w34.cell? ⟨gb309, 3, none⟩ = some (.bool false) := (blk_cell BK309.out 3).trans rfl; have hfz36_0 := blk_frozen BK309.out 0; have hfz36_1 := blk_frozen BK309.out 1; have hfz36_2 := blk_frozen BK309.out 2; have hfz36_3 := blk_frozen BK309.out 3))
        refine bodyPost_ret (results_cell_row rfl _ _ gb309 24 #[.int .i64 t310, .slice (some ⟨go8, 0, none⟩) t311.length co24, .slice Ao25 t314.length co25, .bool t317] (0, 0) _ rfl (by (with_reducible repeat (first | refine blk_drewN ?_ _ | refine blk_drew ?_ | refine blk_alloc ?_ _)); refine blk_put (cs := #[.int .i64 t310, .slice (some ⟨go8, 0, none⟩) t311.length co24, .slice Ao25 t314.length co25, .bool false]) ?_ 3 _ rfl; (with_reducible repeat (first | refine blk_drewN ?_ _ | refine blk_drew ?_ | refine blk_alloc ?_ _)); refine blk_put (cs := #[.int .i64 t310, .slice (some ⟨go8, 0, none⟩) t311.length co24, .slice none 0 0, .bool false]) ?_ 2 _ rfl; (with_reducible repeat (first | refine blk_drewN ?_ _ | refine blk_drew ?_ | refine blk_alloc ?_ _)); refine blk_put (cs := #[.int .i64 t310, .slice none 0 0, .slice none 0 0, .bool false]) ?_ 1 _ rfl; (with_reducible repeat (first | refine blk_drewN ?_ _ | refine blk_drew ?_ | refine blk_alloc ?_ _)); refine blk_put (cs := #[.int .i64 0, .slice none 0 0, .slice none 0 0, .bool false]) ?_ 0 _ rfl; (with_reducible repeat (first | refine blk_drewN ?_ _ | refine blk_drew ?_ | refine blk_alloc ?_ _)); exact BK309.out) Tryd.underlying24 rfl (by kernel_rfl)) rfl ?_
        exact ⟨_, _, by first | rfl | (simp [errW_none, errW_some] <;> rfl) | (simp [*, errW_none, errW_some] <;> rfl), by (with_reducible repeat (first | apply Kd.R_alloc | apply Kd.R_drewN | apply Kd.R_drew)); exact Kd.R_mono (Kd.R_far (p := ⟨gb309, 3, none⟩) (Kd.R_far (p := ⟨gb309, 2, none⟩) (Kd.R_far (p := ⟨gb309, 1, none⟩) (Kd.R_far (p := ⟨gb309, 0, none⟩) (Kd.R_types HO313.out BK309.out (by decide)) (fun _ hk => hk.2) (.int .i64 t310)) (fun _ hk => hk.2) (.slice (some ⟨go8, 0, none⟩) t311.length co24)) (fun _ hk => hk.2) (.slice Ao25 t314.length co25)) (fun _ hk => hk.2) (.bool t317)) (fun _ hk => hk.1.1), by (with_reducible repeat (first | apply Kd.R_alloc | apply Kd.R_drewN | apply Kd.R_drew)); exact Kd.R_mono (Kd.R_far (p := ⟨gb309, 3, none⟩) (Kd.R_far (p := ⟨gb309, 2, none⟩) (Kd.R_far (p := ⟨gb309, 1, none⟩) (Kd.R_far (p := ⟨gb309, 0, none⟩) (Kd.R_types HO316.out BK309.out (by decide)) (fun _ hk => hk.2) (.int .i64 t310)) (fun _ hk => hk.2) (.slice (some ⟨go8, 0, none⟩) t311.length co24)) (fun _ hk => hk.2) (.slice Ao25 t314.length co25)) (fun _ hk => hk.2) (.bool t317)) (fun _ hk => hk.1.2), by repeat (first | (with_reducible first | exact HB.out | apply below_alloc | apply pw_below_drewN | apply below_drew1 | refine below_set ?_ GE306.out | refine below_set ?_ GE307.out | refine below_set ?_ GE308.out | refine below_set ?_ GE309.out | refine below_set ?_ GE318.out) | exact HB.out)⟩
      · rw [if_neg c7] at H
        exact absurd H (by simp)
    · rw [if_neg c6] at H
      exact absurd H (by simp)
  · rw [if_neg c5] at H
    have c5b0 : (a1_0 == 0) = false := beq_eq_false_iff_ne.mpr c5
    have c5b1 : (a1_0 != 0) = true := bne_iff_ne.mpr c5
    by_cases c37 : 0 ≤ a1_1
    · rw [if_pos c37] at H
      have c37b0 : decide (0 ≤ a1_1) = true := decide_eq_true c37
      clear c37
      by_cases c38 : a1_1 < (t314.length : Int)
      · rw [if_pos c38] at H
        have c38b0 : decide (a1_1 < (t314.length : Int)) = true := decide_eq_true c38
        clear c38
        obtain ⟨y320, hy320⟩ : ∃ y_ : List (S38), y_ = (t314.set (a1_1 : Int).toNat (⟨a2_0, a2_1, a2_2⟩ : S38)) := ⟨_, rfl⟩
        replace H : (some (t310, t311, y320, t317)) = some (r1, r2, r3, r4) := by first | (rw [hy320]; with_reducible exact H) | (have H2_ := (Option.bind_some _ _).symm.trans H; rw [hy320]; with_reducible exact H2_) | (have H2_ := (Option.bind_some _ _).symm.trans H; with_reducible exact H2_) | with_reducible exact H | (rw [hy320]; exact H) | exact H
        have Ny320 := Aside0.mk hy320
        clear hy320
        simp only [Option.some.injEq, Prod.mk.injEq] at H
        obtain ⟨rfl, rfl, rfl, rfl⟩ := H
        go_enter Tryd.func49, Tryd.ntmps49
        go_wp2_with (first | ((with_reducible refine gate_dst (N := 3) rfl ?_); refine box_event ?hg (N := 3) ?hd (cs := #[.int .i64 a0_0, .slice A0_1 l0_1.length c0_1, .slice A0_2 l0_2.length c0_2, .bool a0_3]) (t := 24) ?hr ?_; (case hd => rfl); (case hg => rfl); (case hr => first | (go_simp; done) | (go_simp; rfl)); intro gb306 hg w40 hbox hb; have n0_ := Aside0.mk (below_step (by repeat (first | (with_reducible first | exact HB.out | apply below_alloc | apply pw_below_drewN | apply below_drew1) | exact HB.out)) hb); have n1_ := Aside0.mk (hbox); have n2_ := Aside0.mk ((by rw [hg]; exact (below_size (by repeat (first | (with_reducible first | exact HB.out | apply below_alloc | apply pw_below_drewN | apply below_drew1) | exact HB.out))) : w.heap.size ≤ gb306)); have n3_ := Aside0.mk ((by rw [hg]; exact (below_size (by repeat (first | (with_reducible first | exact HB.out | apply below_alloc | apply pw_below_drewN | apply below_drew1) | exact HB.out))) : w.heap.size ≤ gb306)); clear HB; have HB := n0_; have BK306 := n1_; have GW306 := n2_; have GE306 := n3_; clear n0_ n1_ n2_ n3_; clear hb hbox hg) | ((with_reducible refine gate_dst (N := 4) rfl ?_); refine box_event ?hg (N := 4) ?hd (cs := #[.int .i64 a1_0, .int .i64 a1_1]) (t := 29) ?hr ?_; (case hd => rfl); (case hg => rfl); (case hr => first | (go_simp; done) | (go_simp; rfl)); intro gb307 hg w41 hbox hb; have n0_ := Aside0.mk (blk_below (g := gb306) (o := .cells #[.int .i64 a0_0, .slice A0_1 l0_1.length c0_1, .slice A0_2 l0_2.length c0_2, .bool a0_3] 24 (0, 0)) (by (with_reducible repeat (first | refine blk_drewN ?_ _ | refine blk_drew ?_ | refine blk_alloc ?_ _)); exact BK306.out) hb); have n1_ := Aside0.mk (below_step (by repeat (first | (with_reducible first | exact HB.out | apply below_alloc | apply pw_below_drewN | apply below_drew1 | refine below_set ?_ GE306.out) | exact HB.out)) hb); have n2_ := Aside0.mk (hbox); have n3_ := Aside0.mk ((by rw [hg]; exact (below_size (by repeat (first | (with_reducible first | exact HB.out | apply below_alloc | apply pw_below_drewN | apply below_drew1 | refine below_set ?_ GE306.out) | exact HB.out))) : w.heap.size ≤ gb307)); have n4_ := Aside0.mk ((by rw [hg]; exact (below_size (by repeat (first | (with_reducible first | exact HB.out | apply below_alloc | apply pw_below_drewN | apply below_drew1 | refine below_set ?_ GE306.out) | exact HB.out))) : w.heap.size ≤ gb307)); have n5_ := Aside0.mk ((by rw [hg]; exact Nat.ne_of_lt (blk_lt (g := gb306) (o := .cells #[.int .i64 a0_0, .slice A0_1 l0_1.length c0_1, .slice A0_2 l0_2.length c0_2, .bool a0_3] 24 (0, 0)) (by (with_reducible repeat (first | refine blk_drewN ?_ _ | refine blk_drew ?_ | refine blk_alloc ?_ _)); exact BK306.out)) : gb306 ≠ gb307)); have n6_ := Aside0.mk ((by rw [hg]; exact Nat.ne_of_gt (blk_lt (g := gb306) (o := .cells #[.int .i64 a0_0, .slice A0_1 l0_1.length c0_1, .slice A0_2 l0_2.length c0_2, .bool a0_3] 24 (0, 0)) (by (with_reducible repeat (first | refine blk_drewN ?_ _ | refine blk_drew ?_ | refine blk_alloc ?_ _)); exact BK306.out)) : gb307 ≠ gb306)); clear BK306; clear HB; have BK306 := n0_; have HB := n1_; have BK307 := n2_; have GW307 := n3_; have GE307 := n4_; have NB306_307 := n5_; have NB307_306 := n6_; clear n0_ n1_ n2_ n3_ n4_ n5_ n6_; clear hb hbox hg) | ((with_reducible refine gate_dst (N := 5) rfl ?_); refine box_event ?hg (N := 5) ?hd (cs := #[.int .i64 a2_0, .int .i64 a2_1, .int .i64 a2_2]) (t := 38) ?hr ?_; (case hd => rfl); (case hg => rfl); (case hr => first | (go_simp; done) | (go_simp; rfl)); intro gb308 hg w42 hbox hb; have n0_ := Aside0.mk (blk_below (g := gb306) (o := .cells #[.int .i64 a0_0, .slice A0_1 l0_1.length c0_1, .slice A0_2 l0_2.length c0_2, .bool a0_3] 24 (0, 0)) (by (with_reducible repeat (first | refine blk_drewN ?_ _ | refine blk_drew ?_ | refine blk_alloc ?_ _)); exact BK306.out) hb); have n1_ := Aside0.mk (blk_below (g := gb307) (o := .cells #[.int .i64 a1_0, .int .i64 a1_1] 29 (0, 0)) (by (with_reducible repeat (first | refine blk_drewN ?_ _ | refine blk_drew ?_ | refine blk_alloc ?_ _)); exact BK307.out) hb); have n2_ := Aside0.mk (below_step (by repeat (first | (with_reducible first | exact HB.out | apply below_alloc | apply pw_below_drewN | apply below_drew1 | refine below_set ?_ GE306.out | refine below_set ?_ GE307.out) | exact HB.out)) hb); have n3_ := Aside0.mk (hbox); have n4_ := Aside0.mk ((by rw [hg]; exact (below_size (by repeat (first | (with_reducible first | exact HB.out | apply below_alloc | apply pw_below_drewN | apply below_drew1 | refine below_set ?_ GE306.out | refine below_set ?_ GE307.out) | exact HB.out))) : w.heap.size ≤ gb308)); have n5_ := Aside0.mk ((by rw [hg]; exact (below_size (by repeat (first | (with_reducible first | exact HB.out | apply below_alloc | apply pw_below_drewN | apply below_drew1 | refine below_set ?_ GE306.out | refine below_set ?_ GE307.out) | exact HB.out))) : w.heap.size ≤ gb308)); have n6_ := Aside0.mk ((by rw [hg]; exact Nat.ne_of_lt (blk_lt (g := gb306) (o := .cells #[.int .i64 a0_0, .slice A0_1 l0_1.length c0_1, .slice A0_2 l0_2.length c0_2, .bool a0_3] 24 (0, 0)) (by (with_reducible repeat (first | refine blk_drewN ?_ _ | refine blk_drew ?_ | refine blk_alloc ?_ _)); exact BK306.out)) : gb306 ≠ gb308)); have n7_ := Aside0.mk ((by rw [hg]; exact Nat.ne_of_gt (blk_lt (g := gb306) (o := .cells #[.int .i64 a0_0, .slice A0_1 l0_1.length c0_1, .slice A0_2 l0_2.length c0_2, .bool a0_3] 24 (0, 0)) (by (with_reducible repeat (first | refine blk_drewN ?_ _ | refine blk_drew ?_ | refine blk_alloc ?_ _)); exact BK306.out)) : gb308 ≠ gb306)); have n8_ := Aside0.mk ((by rw [hg]; exact Nat.ne_of_lt (blk_lt (g := gb307) (o := .cells #[.int .i64 a1_0, .int .i64 a1_1] 29 (0, 0)) (by (with_reducible repeat (first | refine blk_drewN ?_ _ | refine blk_drew ?_ | refine blk_alloc ?_ _)); exact BK307.out)) : gb307 ≠ gb308)); have n9_ := Aside0.mk ((by rw [hg]; exact Nat.ne_of_gt (blk_lt (g := gb307) (o := .cells #[.int .i64 a1_0, .int .i64 a1_1] 29 (0, 0)) (by (with_reducible repeat (first | refine blk_drewN ?_ _ | refine blk_drew ?_ | refine blk_alloc ?_ _)); exact BK307.out)) : gb308 ≠ gb307)); clear BK306; clear BK307; clear HB; have BK306 := n0_; have BK307 := n1_; have HB := n2_; have BK308 := n3_; have GW308 := n4_; have GE308 := n5_; have NB306_308 := n6_; have NB308_306 := n7_; have NB307_308 := n8_; have NB308_307 := n9_; clear n0_ n1_ n2_ n3_ n4_ n5_ n6_ n7_ n8_ n9_; clear hb hbox hg) | ((with_reducible refine gate_dst (N := 6) rfl ?_); refine box_event ?hg (N := 6) ?hd (cs := #[.int .i64 0, .slice none 0 0, .slice none 0 0, .bool false]) (t := 24) ?hr ?_; (case hd => rfl); (case hg => rfl); (case hr => first | (go_simp; done) | (go_simp; rfl)); intro gb309 hg w43 hbox hb; have n0_ := Aside0.mk (blk_below (g := gb306) (o := .cells #[.int .i64 a0_0, .slice A0_1 l0_1.length c0_1, .slice A0_2 l0_2.length c0_2, .bool a0_3] 24 (0, 0)) (by (with_reducible repeat (first | refine blk_drewN ?_ _ | refine blk_drew ?_ | refine blk_alloc ?_ _)); exact BK306.out) hb); have n1_ := Aside0.mk (blk_below (g := gb307) (o := .cells #[.int .i64 a1_0, .int .i64 a1_1] 29 (0, 0)) (by (with_reducible repeat (first | refine blk_drewN ?_ _ | refine blk_drew ?_ | refine blk_alloc ?_ _)); exact BK307.out) hb); have n2_ := Aside0.mk (blk_below (g := gb308) (o := .cells #[.int .i64 a2_0, .int .i64 a2_1, .int .i64 a2_2] 38 (0, 0)) (by (with_reducible repeat (first | refine blk_drewN ?_ _ | refine blk_drew ?_ | refine blk_alloc ?_ _)); exact BK308.out) hb); have n3_ := Aside0.mk (below_step (by repeat (first | (with_reducible first | exact HB.out | apply below_alloc | apply pw_below_drewN | apply below_drew1 | refine below_set ?_ GE306.out | refine below_set ?_ GE307.out | refine below_set ?_ GE308.out) | exact HB.out)) hb); have n4_ := Aside0.mk (hbox); have n5_ := Aside0.mk ((by rw [hg]; exact (below_size (by repeat (first | (with_reducible first | exact HB.out | apply below_alloc | apply pw_below_drewN | apply below_drew1 | refine below_set ?_ GE306.out | refine below_set ?_ GE307.out | refine below_set ?_ GE308.out) | exact HB.out))) : w.heap.size ≤ gb309)); have n6_ := Aside0.mk ((by rw [hg]; exact (below_size (by repeat (first | (with_reducible first | exact HB.out | apply below_alloc | apply pw_below_drewN | apply below_drew1 | refine below_set ?_ GE306.out | refine below_set ?_ GE307.out | refine below_set ?_ GE308.out) | exact HB.out))) : w.heap.size ≤ gb309)); have n7_ := Aside0.mk ((by rw [hg]; exact Nat.ne_of_lt (blk_lt (g := gb306) (o := .cells #[.int .i64 a0_0, .slice A0_1 l0_1.length c0_1, .slice A0_2 l0_2.length c0_2, .bool a0_3] 24 (0, 0)) (by (with_reducible repeat (first | refine blk_drewN ?_ _ | refine blk_drew ?_ | refine blk_alloc ?_ _)); exact BK306.out)) : gb306 ≠ gb309)); have n8_ := Aside0.mk ((by rw [hg]; exact Nat.ne_of_gt (blk_lt (g := gb306) (o := .cells #[.int .i64 a0_0, .slice A0_1 l0_1.length c0_1, .slice A0_2 l0_2.length c0_2, .bool a0_3] 24 (0, 0)) (by (with_reducible repeat (first | refine blk_drewN ?_ _ | refine blk_drew ?_ | refine blk_alloc ?_ _)); exact BK306.out)) : gb309 ≠ gb306)); have n9_ := Aside0.mk ((by rw [hg]; exact Nat.ne_of_lt (blk_lt (g := gb307) (o := .cells #[.int .i64 a1_0, .int .i64 a1_1] 29 (0, 0)) (by (with_reducible repeat (first | refine blk_drewN ?_ _ | refine blk_drew ?_ | refine blk_alloc ?_ _)); exact BK307.out)) : gb307 ≠ gb309)); have n10_ := Aside0.mk ((by rw [hg]; exact Nat.ne_of_gt (blk_lt (g := gb307) (o := .cells #[.int .i64 a1_0, .int .i64 a1_1] 29 (0, 0)) (by (with_reducible repeat (first | refine blk_drewN ?_ _ | refine blk_drew ?_ | refine blk_alloc ?_ _)); exact BK307.out)) : gb309 ≠ gb307)); have n11_ := Aside0.mk ((by rw [hg]; exact Nat.ne_of_lt (blk_lt (g := gb308) (o := .cells #[.int .i64 a2_0, .int .i64 a2_1, .int .i64 a2_2] 38 (0, 0)) (by (with_reducible repeat (first | refine blk_drewN ?_ _ | refine blk_drew ?_ | refine blk_alloc ?_ _)); exact BK308.out)) : gb308 ≠ gb309)); have n12_ := Aside0.mk ((by rw [hg]; exact Nat.ne_of_gt (blk_lt (g := gb308) (o := .cells #[.int .i64 a2_0, .int .i64 a2_1, .int .i64 a2_2] 38 (0, 0)) (by (with_reducible repeat (first | refine blk_drewN ?_ _ | refine blk_drew ?_ | refine blk_alloc ?_ _)); exact BK308.out)) : gb309 ≠ gb308)); clear BK306; clear BK307; clear BK308; clear HB; have BK306 := n0_; have BK307 := n1_; have BK308 := n2_; have HB := n3_; have BK309 := n4_; have GW309 := n5_; have GE309 := n6_; have NB306_309 := n7_; have NB309_306 := n8_; have NB307_309 := n9_; have NB309_307 := n10_; have NB308_309 := n11_; have NB309_308 := n12_; clear n0_ n1_ n2_ n3_ n4_ n5_ n6_ n7_ n8_ n9_ n10_ n11_ n12_; clear hb hbox hg; have hnb44 := NB306_307.out; have hnc44 := NB307_306.out; have hnb45 := NB306_308.out; have hnc45 := NB308_306.out; have hnb46 := NB306_309.out; have hnc46 := NB309_306.out; have hcz47_0 : w43.cell? ⟨gb306, 0, none⟩ = some (.int .i64 a0_0) := (blk_cell BK306.out 0).trans rfl; have hcz47_1 : w43.cell? ⟨gb306, 1, none⟩ = some (.slice A0_1 l0_1.length c0_1) := (blk_cell BK306.out 1).trans rfl; have hcz47_2 : w43.cell? ⟨gb306, 2, none⟩ = some (.slice A0_2 l0_2.length c0_2) := (blk_cell BK306.out 2).trans rfl; have hcz47_3 : w43.cell? ⟨gb306, 3, none⟩ = some (.bool a0_3) := (blk_cell BK306.out 3).trans rfl; have hfz47_0 := blk_frozen BK306.out 0; have hfz47_1 := blk_frozen BK306.out 1; have hfz47_2 := blk_frozen BK306.out 2; have hfz47_3 := blk_frozen BK306.out 3) | ((with_reducible refine gate_callee (f := 65) rfl ?_); refine goesL_ (some 9) rfl rfl Tryd.func65 (by kernel_rfl) rfl #[.agg #[.int .i64 a0_0, .slice A0_1 l0_1.length c0_1, .slice A0_2 l0_2.length c0_2, .bool a0_3]] rfl (by (try simp only [List.map_toArray, List.map_cons, List.map_nil]); first | done | rfl | (simp only [List.length_drop, List.length_take]; rfl)) ?_; (with_reducible refine (winnowref19_Copied.calls a0_0 _ _ l0_1 _ _ l0_2 a0_3 t310 t311 t314 t317 _ ?side1 ?side2 ?side3 ?side4 A4.out).mono ?_); (case side1 => repeat (first | exact (Kd.C_below HR0_1.out HB.out) | (with_reducible refine Kd.C_alloc ?_ _) | (with_reducible refine Kd.C_drewN ?_ _) | (with_reducible refine Kd.C_drew ?_))); (case side2 => exact HC0_1.out); (case side3 => repeat (first | exact (Kd.C_below HR0_2.out HB.out) | (with_reducible refine Kd.C_alloc ?_ _) | (with_reducible refine Kd.C_drewN ?_ _) | (with_reducible refine Kd.C_drew ?_))); (case side4 => exact HC0_2.out); rintro e w48 ⟨v312, v315, rfl, ho0, ho1, hb⟩; refine ⟨_, rfl, ?_⟩; have n0_ := Aside0.mk (Kd.R_lower (Kd.R_newB ho0 (g := gb308) (o := .cells #[.int .i64 a2_0, .int .i64 a2_1, .int .i64 a2_2] 38 (0, 0)) (by (with_reducible repeat (first | refine blk_drewN ?_ _ | refine blk_drew ?_ | refine blk_alloc ?_ _)); exact BK308.out)) (below_size (by repeat (first | (with_reducible first | exact HB.out | apply below_alloc | apply pw_below_drewN | apply below_drew1 | refine below_set ?_ GE306.out | refine below_set ?_ GE307.out | refine below_set ?_ GE308.out | refine below_set ?_ GE309.out) | exact HB.out)))); have n1_ := Aside0.mk (Kd.R_lower (Kd.R_newB ho1 (g := gb308) (o := .cells #[.int .i64 a2_0, .int .i64 a2_1, .int .i64 a2_2] 38 (0, 0)) (by (with_reducible repeat (first | refine blk_drewN ?_ _ | refine blk_drew ?_ | refine blk_alloc ?_ _)); exact BK308.out)) (below_size (by repeat (first | (with_reducible first | exact HB.out | apply below_alloc | apply pw_below_drewN | apply below_drew1 | refine below_set ?_ GE306.out | refine below_set ?_ GE307.out | refine below_set ?_ GE308.out | refine below_set ?_ GE309.out) | exact HB.out)))); have n2_ := Aside0.mk (blk_below (g := gb306) (o := .cells #[.int .i64 a0_0, .slice A0_1 l0_1.length c0_1, .slice A0_2 l0_2.length c0_2, .bool a0_3] 24 (0, 0)) (by (with_reducible repeat (first | refine blk_drewN ?_ _ | refine blk_drew ?_ | refine blk_alloc ?_ _)); exact BK306.out) hb); have n3_ := Aside0.mk (blk_below (g := gb307) (o := .cells #[.int .i64 a1_0, .int .i64 a1_1] 29 (0, 0)) (by (with_reducible repeat (first | refine blk_drewN ?_ _ | refine blk_drew ?_ | refine blk_alloc ?_ _)); exact BK307.out) hb); have n4_ := Aside0.mk (blk_below (g := gb308) (o := .cells #[.int .i64 a2_0, .int .i64 a2_1, .int .i64 a2_2] 38 (0, 0)) (by (with_reducible repeat (first | refine blk_drewN ?_ _ | refine blk_drew ?_ | refine blk_alloc ?_ _)); exact BK308.out) hb); have n5_ := Aside0.mk (blk_below (g := gb309) (o := .cells #[.int .i64 0, .slice none 0 0, .slice none 0 0, .bool false] 24 (0, 0)) (by (with_reducible repeat (first | refine blk_drewN ?_ _ | refine blk_drew ?_ | refine blk_alloc ?_ _)); exact BK309.out) hb); have n6_ := Aside0.mk (below_step (by repeat (first | (with_reducible first | exact HB.out | apply below_alloc | apply pw_below_drewN | apply below_drew1 | refine below_set ?_ GE306.out | refine below_set ?_ GE307.out | refine below_set ?_ GE308.out | refine below_set ?_ GE309.out) | exact HB.out)) hb); clear BK306; clear BK307; clear BK308; clear BK309; clear HB; have HO313 := n0_; have HO316 := n1_; have BK306 := n2_; have BK307 := n3_; have BK308 := n4_; have BK309 := n5_; have HB := n6_; clear n0_ n1_ n2_ n3_ n4_ n5_ n6_; (try clear hb); (try clear hb2); (try clear hk); (try clear hi); (try clear ho0); (try clear ho1)) | ((with_reducible refine gate_dst (N := 7) rfl ?_); refine box_event ?hg (N := 7) ?hd (cs := #[.int .i64 0, .slice none 0 0, .slice none 0 0, .bool false]) (t := 24) ?hr ?_; (case hd => rfl); (case hg => rfl); (case hr => first | (go_simp; done) | (go_simp; rfl)); intro gb318 hg w49 hbox hb; have n0_ := Aside0.mk (Kd.R_below (by (with_reducible repeat (first | apply Kd.R_alloc | apply Kd.R_drewN | apply Kd.R_drew)); exact HO313.out) hb); have n1_ := Aside0.mk (Kd.R_below (by (with_reducible repeat (first | apply Kd.R_alloc | apply Kd.R_drewN | apply Kd.R_drew)); exact HO316.out) hb); have n2_ := Aside0.mk (blk_below (g := gb306) (o := .cells #[.int .i64 a0_0, .slice A0_1 l0_1.length c0_1, .slice A0_2 l0_2.length c0_2, .bool a0_3] 24 (0, 0)) (by (with_reducible repeat (first | refine blk_drewN ?_ _ | refine blk_drew ?_ | refine blk_alloc ?_ _)); exact BK306.out) hb); have n3_ := Aside0.mk (blk_below (g := gb307) (o := .cells #[.int .i64 a1_0, .int .i64 a1_1] 29 (0, 0)) (by (with_reducible repeat (first | refine blk_drewN ?_ _ | refine blk_drew ?_ | refine blk_alloc ?_ _)); exact BK307.out) hb); have n4_ := Aside0.mk (blk_below (g := gb308) (o := .cells #[.int .i64 a2_0, .int .i64 a2_1, .int .i64 a2_2] 38 (0, 0)) (by (with_reducible repeat (first | refine blk_drewN ?_ _ | refine blk_drew ?_ | refine blk_alloc ?_ _)); exact BK308.out) hb); have n5_ := Aside0.mk (blk_below (g := gb309) (o := .cells #[.int .i64 0, .slice none 0 0, .slice none 0 0, .bool false] 24 (0, 0)) (by (with_reducible repeat (first | refine blk_drewN ?_ _ | refine blk_drew ?_ | refine blk_alloc ?_ _)); exact BK309.out) hb); have n6_ := Aside0.mk (below_step (by repeat (first | (with_reducible first | exact HB.out | apply below_alloc | apply pw_below_drewN | apply below_drew1 | refine below_set ?_ GE306.out | refine below_set ?_ GE307.out | refine below_set ?_ GE308.out | refine below_set ?_ GE309.out) | exact HB.out)) hb); have n7_ := Aside0.mk (hbox); have n8_ := Aside0.mk ((by rw [hg]; exact (below_size (by repeat (first | (with_reducible first | exact HB.out | apply below_alloc | apply pw_below_drewN | apply below_drew1 | refine below_set ?_ GE306.out | refine below_set ?_ GE307.out | refine below_set ?_ GE308.out | refine below_set ?_ GE309.out) | exact HB.out))) : w.heap.size ≤ gb318)); have n9_ := Aside0.mk ((by rw [hg]; exact (below_size (by repeat (first | (with_reducible first | exact HB.out | apply below_alloc | apply pw_below_drewN | apply below_drew1 | refine below_set ?_ GE306.out | refine below_set ?_ GE307.out | refine below_set ?_ GE308.out | refine below_set ?_ GE309.out) | exact HB.out))) : w.heap.size ≤ gb318)); have n10_ := Aside0.mk ((by rw [hg]; exact Nat.ne_of_lt (blk_lt (g := gb306) (o := .cells #[.int .i64 a0_0, .slice A0_1 l0_1.length c0_1, .slice A0_2 l0_2.length c0_2, .bool a0_3] 24 (0, 0)) (by (with_reducible repeat (first | refine blk_drewN ?_ _ | refine blk_drew ?_ | refine blk_alloc ?_ _)); exact BK306.out)) : gb306 ≠ gb318)); have n11_ := Aside0.mk ((by rw [hg]; exact Nat.ne_of_gt (blk_lt (g := gb306) (o := .cells #[.int .i64 a0_0, .slice A0_1 l0_1.length c0_1, .slice A0_2 l0_2.length c0_2, .bool a0_3] 24 (0, 0)) (by (with_reducible repeat (first | refine blk_drewN ?_ _ | refine blk_drew ?_ | refine blk_alloc ?_ _)); exact BK306.out)) : gb318 ≠ gb306)); have n12_ := Aside0.mk ((by rw [hg]; exact Nat.ne_of_lt (blk_lt (g := gb307) (o := .cells #[.int .i64 a1_0, .int .i64 a1_1] 29 (0, 0)) (by (with_reducible repeat (first | refine blk_drewN ?_ _ | refine blk_drew ?_ | refine blk_alloc ?_ _)); exact BK307.out)) : gb307 ≠ gb318)); have n13_ := Aside0.mk ((by rw [hg]; exact Nat.ne_of_gt (blk_lt (g := gb307) (o := .cells #[.int .i64 a1_0, .int .i64 a1_1] 29 (0, 0)) (by (with_reducible repeat (first | refine blk_drewN ?_ _ | refine blk_drew ?_ | refine blk_alloc ?_ _)); exact BK307.out)) : gb318 ≠ gb307)); have n14_ := Aside0.mk ((by rw [hg]; exact Nat.ne_of_lt (blk_lt (g := gb308) (o := .cells #[.int .i64 a2_0, .int .i64 a2_1, .int .i64 a2_2] 38 (0, 0)) (by (with_reducible repeat (first | refine blk_drewN ?_ _ | refine blk_drew ?_ | refine blk_alloc ?_ _)); exact BK308.out)) : gb308 ≠ gb318)); have n15_ := Aside0.mk ((by rw [hg]; exact Nat.ne_of_gt (blk_lt (g := gb308) (o := .cells #[.int .i64 a2_0, .int .i64 a2_1, .int .i64 a2_2] 38 (0, 0)) (by (with_reducible repeat (first | refine blk_drewN ?_ _ | refine blk_drew ?_ | refine blk_alloc ?_ _)); exact BK308.out)) : gb318 ≠ gb308)); have n16_ := Aside0.mk ((by rw [hg]; exact Nat.ne_of_lt (blk_lt (g := gb309) (o := .cells #[.int .i64 0, .slice none 0 0, .slice none 0 0, .bool false] 24 (0, 0)) (by (with_reducible repeat (first | refine blk_drewN ?_ _ | refine blk_drew ?_ | refine blk_alloc ?_ _)); exact BK309.out)) : gb309 ≠ gb318)); have n17_ := Aside0.mk ((by rw [hg]; exact Nat.ne_of_gt (blk_lt (g := gb309) (o := .cells #[.int .i64 0, .slice none 0 0, .slice none 0 0, .bool false] 24 (0, 0)) (by (with_reducible repeat (first | refine blk_drewN ?_ _ | refine blk_drew ?_ | refine blk_alloc ?_ _)); exact BK309.out)) : gb318 ≠ gb309)); clear HO313; clear HO316; clear BK306; clear BK307; clear BK308; clear BK309; clear HB; have HO313 := n0_; have HO316 := n1_; have BK306 := n2_; have BK307 := n3_; have BK308 := n4_; have BK309 := n5_; have HB := n6_; have BK318 := n7_; have GW318 := n8_; have GE318 := n9_; have NB306_318 := n10_; have NB318_306 := n11_; have NB307_318 := n12_; have NB318_307 := n13_; have NB308_318 := n14_; have NB318_308 := n15_; have NB309_318 := n16_; have NB318_309 := n17_; clear n0_ n1_ n2_ n3_ n4_ n5_ n6_ n7_ n8_ n9_ n10_ n11_ n12_ n13_ n14_ n15_ n16_ n17_; clear hb hbox hg; have hnb50 := NB318_306.out; have hnc50 := NB306_318.out; have hnb51 := NB318_307.out; have hnc51 := NB307_318.out; have hnb52 := NB318_308.out; have hnc52 := NB308_318.out; have hnb53 := NB318_309.out; have hnc53 := NB309_318.out; have hcz54_0 : w49.cell? ⟨gb318, 0, none⟩ = some (.int .i64 0) := (blk_cell BK318.out 0).trans rfl; have hcz54_1 : w49.cell? ⟨gb318, 1, none⟩ = some (.slice none 0 0) := (blk_cell BK318.out 1).trans rfl; have hcz54_2 : w49.cell? ⟨gb318, 2, none⟩ = some (.slice none 0 0) := (blk_cell BK318.out 2).trans rfl; have hcz54_3 : w49.cell? ⟨gb318, 3, none⟩ = some (.bool false) := (blk_cell BK318.out 3).trans rfl; have hfz54_0 := blk_frozen BK318.out 0; have hfz54_1 := blk_frozen BK318.out 1; have hfz54_2 := blk_frozen BK318.out 2; have hfz54_3 := blk_frozen BK318.out 3; obtain ⟨Ao55, co55, eo55⟩ := Kd.R_slice HO313.out; subst eo55; obtain ⟨Ao56, co56, eo56⟩ := Kd.R_slice HO316.out; subst eo56) | ((with_reducible refine gate_store (t := 24) (p := 7) rfl ?_); refine store_event (t := 24) (p := 7) (v := ?vo_w57) (w1 := ((((w49.setCell ⟨gb318, 0, none⟩ (.int .i64 t310)).setCell ⟨gb318, 1, none⟩ (.slice Ao55 t311.length co55)).setCell ⟨gb318, 2, none⟩ (.slice Ao56 t314.length co56)).setCell ⟨gb318, 3, none⟩ (.bool t317))) ?hg ?ho ?hn ?hr ?_; (case ho => rfl); (case hg => rfl); (case hn => rfl); (case hr => first | (go_simp; done) | (go_simp; rfl)); intro w57 hw; have n0_ : Aside0 (Kd.R k38 38 w57 w.heap.size (fun k_ => some k_ ≠ (.slice Ao56 t314.length co56 : Value).ownBlock ∧ k_ ≠ gb308) (.slice Ao55 t311.length co55) t311) := ⟨(by rw [hw]; exact (by (with_reducible repeat (first | apply Kd.R_alloc | apply Kd.R_drewN | apply Kd.R_drew)); exact Kd.R_mono (Kd.R_far (p := ⟨gb318, 3, none⟩) (Kd.R_far (p := ⟨gb318, 2, none⟩) (Kd.R_far (p := ⟨gb318, 1, none⟩) (Kd.R_far (p := ⟨gb318, 0, none⟩) (Kd.R_types HO313.out BK318.out (by decide)) (fun _ hk => hk.2) (.int .i64 t310)) (fun _ hk => hk.2) (.slice Ao55 t311.length co55)) (fun _ hk => hk.2) (.slice Ao56 t314.length co56)) (fun _ hk => hk.2) (.bool t317)) (fun _ hk => ⟨hk.1.1, hk.1.2⟩)))⟩; have n1_ : Aside0 (Kd.R k38 38 w57 w.heap.size (fun k_ => some k_ ≠ (.slice Ao55 t311.length co55 : Value).ownBlock ∧ k_ ≠ gb308) (.slice Ao56 t314.length co56) t314) := ⟨(by rw [hw]; exact (by (with_reducible repeat (first | apply Kd.R_alloc | apply Kd.R_drewN | apply Kd.R_drew)); exact Kd.R_mono (Kd.R_far (p := ⟨gb318, 3, none⟩) (Kd.R_far (p := ⟨gb318, 2, none⟩) (Kd.R_far (p := ⟨gb318, 1, none⟩) (Kd.R_far (p := ⟨gb318, 0, none⟩) (Kd.R_types HO316.out BK318.out (by decide)) (fun _ hk => hk.2) (.int .i64 t310)) (fun _ hk => hk.2) (.slice Ao55 t311.length co55)) (fun _ hk => hk.2) (.slice Ao56 t314.length co56)) (fun _ hk => hk.2) (.bool t317)) (fun _ hk => ⟨hk.1.1, hk.1.2⟩)))⟩; have n2_ : Aside0 (w57.heap[gb306]? = some (.cells #[.int .i64 a0_0, .slice A0_1 l0_1.length c0_1, .slice A0_2 l0_2.length c0_2, .bool a0_3] 24 (0, 0))) := ⟨(by rw [hw]; exact (by (with_reducible repeat (first | refine blk_drewN ?_ _ | refine blk_drew ?_ | refine blk_alloc ?_ _)); refine blk_far ?_ NB306_318.out _; (with_reducible repeat (first | refine blk_drewN ?_ _ | refine blk_drew ?_ | refine blk_alloc ?_ _)); refine blk_far ?_ NB306_318.out _; (with_reducible repeat (first | refine blk_drewN ?_ _ | refine blk_drew ?_ | refine blk_alloc ?_ _)); refine blk_far ?_ NB306_318.out _; (with_reducible repeat (first | refine blk_drewN ?_ _ | refine blk_drew ?_ | refine blk_alloc ?_ _)); refine blk_far ?_ NB306_318.out _; (with_reducible repeat (first | refine blk_drewN ?_ _ | refine blk_drew ?_ | refine blk_alloc ?_ _)); exact BK306.out))⟩; have n3_ : Aside0 (w57.heap[gb307]? = some (.cells #[.int .i64 a1_0, .int .i64 a1_1] 29 (0, 0))) := ⟨(by rw [hw]; exact (by (with_reducible repeat (first | refine blk_drewN ?_ _ | refine blk_drew ?_ | refine blk_alloc ?_ _)); refine blk_far ?_ NB307_318.out _; (with_reducible repeat (first | refine blk_drewN ?_ _ | refine blk_drew ?_ | refine blk_alloc ?_ _)); refine blk_far ?_ NB307_318.out _; (with_reducible repeat (first | refine blk_drewN ?_ _ | refine blk_drew ?_ | refine blk_alloc ?_ _)); refine blk_far ?_ NB307_318.out _; (with_reducible repeat (first | refine blk_drewN ?_ _ | refine blk_drew ?_ | refine blk_alloc ?_ _)); refine blk_far ?_ NB307_318.out _; (with_reducible repeat (first | refine blk_drewN ?_ _ | refine blk_drew ?_ | refine blk_alloc ?_ _)); exact BK307.out))⟩; have n4_ : Aside0 (w57.heap[gb308]? = some (.cells #[.int .i64 a2_0, .int .i64 a2_1, .int .i64 a2_2] 38 (0, 0))) := ⟨(by rw [hw]; exact (by (with_reducible repeat (first | refine blk_drewN ?_ _ | refine blk_drew ?_ | refine blk_alloc ?_ _)); refine blk_far ?_ NB308_318.out _; (with_reducible repeat (first | refine blk_drewN ?_ _ | refine blk_drew ?_ | refine blk_alloc ?_ _)); refine blk_far ?_ NB308_318.out _; (with_reducible repeat (first | refine blk_drewN ?_ _ | refine blk_drew ?_ | refine blk_alloc ?_ _)); refine blk_far ?_ NB308_318.out _; (with_reducible repeat (first | refine blk_drewN ?_ _ | refine blk_drew ?_ | refine blk_alloc ?_ _)); refine blk_far ?_ NB308_318.out _; (with_reducible repeat (first | refine blk_drewN ?_ _ | refine blk_drew ?_ | refine blk_alloc ?_ _)); exact BK308.out))⟩; have n5_ : Aside0 (w57.heap[gb309]? = some (.cells #[.int .i64 0, .slice none 0 0, .slice none 0 0, .bool false] 24 (0, 0))) := ⟨(by rw [hw]; exact (by (with_reducible repeat (first | refine blk_drewN ?_ _ | refine blk_drew ?_ | refine blk_alloc ?_ _)); refine blk_far ?_ NB309_318.out _; (with_reducible repeat (first | refine blk_drewN ?_ _ | refine blk_drew ?_ | refine blk_alloc ?_ _)); refine blk_far ?_ NB309_318.out _; (with_reducible repeat (first | refine blk_drewN ?_ _ | refine blk_drew ?_ | refine blk_alloc ?_ _)); refine blk_far ?_ NB309_318.out _; (with_reducible repeat (first | refine blk_drewN ?_ _ | refine blk_drew ?_ | refine blk_alloc ?_ _)); refine blk_far ?_ NB309_318.out _; (with_reducible repeat (first | refine blk_drewN ?_ _ | refine blk_drew ?_ | refine blk_alloc ?_ _)); exact BK309.out))⟩; have n6_ : Aside0 (w57.heap[gb318]? = some (.cells #[.int .i64 t310, .slice Ao55 t311.length co55, .slice Ao56 t314.length co56, .bool t317] 24 (0, 0))) := ⟨(by rw [hw]; exact (by (with_reducible repeat (first | refine blk_drewN ?_ _ | refine blk_drew ?_ | refine blk_alloc ?_ _)); refine blk_put (cs := #[.int .i64 t310, .slice Ao55 t311.length co55, .slice Ao56 t314.length co56, .bool false]) ?_ 3 _ rfl; (with_reducible repeat (first | refine blk_drewN ?_ _ | refine blk_drew ?_ | refine blk_alloc ?_ _)); refine blk_put (cs := #[.int .i64 t310, .slice Ao55 t311.length co55, .slice none 0 0, .bool false]) ?_ 2 _ rfl; (with_reducible repeat (first | refine blk_drewN ?_ _ | refine blk_drew ?_ | refine blk_alloc ?_ _)); refine blk_put (cs := #[.int .i64 t310, .slice none 0 0, .slice none 0 0, .bool false]) ?_ 1 _ rfl; (with_reducible repeat (first | refine blk_drewN ?_ _ | refine blk_drew ?_ | refine blk_alloc ?_ _)); refine blk_put (cs := #[.int .i64 0, .slice none 0 0, .slice none 0 0, .bool false]) ?_ 0 _ rfl; (with_reducible repeat (first | refine blk_drewN ?_ _ | refine blk_drew ?_ | refine blk_alloc ?_ _)); exact BK318.out))⟩; have n7_ : Aside0 (Below w.heap.size w w57) := ⟨(by rw [hw]; exact (by repeat (first | (with_reducible first | exact HB.out | apply below_alloc | apply pw_below_drewN | apply below_drew1 | refine below_set ?_ GE306.out | refine below_set ?_ GE307.out | refine below_set ?_ GE308.out | refine below_set ?_ GE309.out | refine below_set ?_ GE318.out) | exact HB.out)))⟩; clear hw; clear HO313; clear HO316; clear BK306; clear BK307; clear BK308; clear BK309; clear BK318; clear HB; have HO313 := n0_; have HO316 := n1_; have BK306 := n2_; have BK307 := n3_; have BK308 := n4_; have BK309 := n5_; have BK318 := n6_; have HB := n7_; clear n0_ n1_ n2_ n3_ n4_ n5_ n6_ n7_; have hnb58 := NB307_308.out; have hnc58 := NB308_307.out; have hnb59 := NB307_309.out; have hnc59 := NB309_307.out; have hcz60_0 : w57.cell? ⟨gb307, 0, none⟩ = some (.int .i64 a1_0) := (blk_cell BK307.out 0).trans rfl; have hcz60_1 : w57.cell? ⟨gb307, 1, none⟩ = some (.int .i64 a1_1) := (blk_cell BK307.out 1).trans rfl; have hfz60_0 := blk_frozen BK307.out 0; have hfz60_1 := blk_frozen BK307.out 1; have hcz61_0 : w57.cell? ⟨gb318, 0, none⟩ = some (.int .i64 t310) := (blk_cell BK318.out 0).trans rfl; have hcz61_1 : w57.cell? ⟨gb318, 1, none⟩ = some (.slice Ao55 t311.length co55) := (blk_cell BK318.out 1).trans rfl; have hcz61_2 : w57.cell? ⟨gb318, 2, none⟩ = some (.slice Ao56 t314.length co56) := (blk_cell BK318.out 2).trans rfl; have hcz61_3 : w57.cell? ⟨gb318, 3, none⟩ = some (.bool t317) := (blk_cell BK318.out 3).trans rfl; have hfz61_0 := blk_frozen BK318.out 0; have hfz61_1 := blk_frozen BK318.out 1; have hfz61_2 := blk_frozen BK318.out 2; have hfz61_3 := blk_frozen BK318.out 3; have hnb62 := NB308_309.out; have hnc62 := NB309_308.out; have hcz63_0 : w57.cell? ⟨gb308, 0, none⟩ = some (.int .i64 a2_0) := (blk_cell BK308.out 0).trans rfl; have hcz63_1 : w57.cell? ⟨gb308, 1, none⟩ = some (.int .i64 a2_1) := (blk_cell BK308.out 1).trans rfl; have hcz63_2 : w57.cell? ⟨gb308, 2, none⟩ = some (.int .i64 a2_2) := (blk_cell BK308.out 2).trans rfl; have hfz63_0 := blk_frozen BK308.out 0; have hfz63_1 := blk_frozen BK308.out 1; have hfz63_2 := blk_frozen BK308.out 2; have p39 : 0 ≤ (a1_1 : Int) := of_decide_eq_true (by first | (with_reducible assumption) | assumption); have q39 : (a1_1 : Int) < ((t314.length : Int) : Int) := of_decide_eq_true (by first | (with_reducible assumption) | assumption); obtain ⟨go39, co39, eo39, gb39, gl39, cl39, HG39⟩ := Kd.R_form HO316.out (by omega); (first | cases eo39 | (injection eo39 with ea_ en_ ec_; (first | subst ea_ | (injection ea_ with ea_; subst ea_)); subst ec_; clear en_)); have GB39 := Aside0.mk gb39; have GG39 := Aside0.mk HG39; clear gb39 gl39 HG39; obtain ⟨ce39, hcl39, hM39, hcc39, hfr39⟩ := Kd.R_elem HO316.out z38 (a1_1 : Int) p39 q39; obtain rfl := k38_openM hM39; have hx39_0 : w57.cell? ⟨go39, (a1_1 : Int).toNat * 3, none⟩ = some (.int .i64 ((rd_T38 t314 a1_1).f0)) := hcc39 0 _ rfl; have hx39_1 : w57.cell? ⟨go39, (a1_1 : Int).toNat * 3 + 1, none⟩ = some (.int .i64 ((rd_T38 t314 a1_1).f1)) := hcc39 1 _ rfl; have hx39_2 : w57.cell? ⟨go39, (a1_1 : Int).toNat * 3 + 2, none⟩ = some (.int .i64 ((rd_T38 t314 a1_1).f2)) := hcc39 2 _ rfl; have hf39_0 : w57.frozen? ⟨go39, (a1_1 : Int).toNat * 3, none⟩ = false := hfr39 0; have hf39_1 : w57.frozen? ⟨go39, (a1_1 : Int).toNat * 3 + 1, none⟩ = false := hfr39 1; have hf39_2 : w57.frozen? ⟨go39, (a1_1 : Int).toNat * 3 + 2, none⟩ = false := hfr39 2; clear hcl39 hcc39 hfr39 hM39; replace p39 := eq_true p39; replace q39 := eq_true q39; have HX64 := Aside0.mk (show Kd.R k38 38 w57 w.heap.size (fun k_ => some k_ ≠ (.slice Ao55 t311.length co55 : Value).ownBlock ∧ k_ ≠ gb308) (.slice (some ⟨go39, 0, none⟩) t314.length co56) t314 from (by (with_reducible repeat (first | apply Kd.R_alloc | apply Kd.R_drewN | apply Kd.R_drew)); exact HO316.out)); obtain ⟨ce64, hcl64, hM64, hcc64, hfr64⟩ := Kd.R_elem HX64.out z38 (a1_1 : Int) (of_decide_eq_true (by first | (with_reducible assumption) | assumption)) (by have h_ : (a1_1 : Int) < ((t314.length : Int) : Int) := of_decide_eq_true (by first | (with_reducible assumption) | assumption); first | exact h_ | (have e_ := (Kd.R_reads' HO316.out).1; omega) | simpa using h_); obtain rfl := k38_openM hM64; have HP64 := Kd.R_seg HX64.out (a1_1 : Int) (of_decide_eq_true (by first | (with_reducible assumption) | assumption)) (by have h_ : (a1_1 : Int) < ((t314.length : Int) : Int) := of_decide_eq_true (by first | (with_reducible assumption) | assumption); first | exact h_ | (have e_ := (Kd.R_reads' HO316.out).1; omega) | simpa using h_) (seg := [.int .i64 a2_0, .int .i64 a2_1, .int .i64 a2_2]) (j := 0) hcl64 hcc64 (show 3 ≤ 3 from by decide) (x' := (⟨a2_0, a2_1, a2_2⟩ : S38)) (k38_mkM _ _ _ (⟨a2_0, a2_1, a2_2⟩ : S38) ) (fun _ hk => hk); have hx64_0 := hcc64 0 _ rfl; (try simp only [show (k38).sz = 3 from rfl, Nat.mul_one, Nat.add_zero] at hx64_0); have hf64_0 := hfr64 0; (try simp only [show (k38).sz = 3 from rfl, Nat.mul_one, Nat.add_zero] at hf64_0); have hx64_1 := hcc64 1 _ rfl; (try simp only [show (k38).sz = 3 from rfl, Nat.mul_one, Nat.add_zero] at hx64_1); have hf64_1 := hfr64 1; (try simp only [show (k38).sz = 3 from rfl, Nat.mul_one, Nat.add_zero] at hf64_1); have hx64_2 := hcc64 2 _ rfl; (try simp only [show (k38).sz = 3 from rfl, Nat.mul_one, Nat.add_zero] at hx64_2); have hf64_2 := hfr64 2; (try simp only [show (k38).sz = 3 from rfl, Nat.mul_one, Nat.add_zero] at hf64_2); clear hcl64 hcc64 hfr64 hM64) | ((with_reducible refine gate_store (t := 38) (p := 24) rfl ?_); refine store_event (t := 38) (p := 24) (v := ?vo_w65) (w1 := (((w57.setCell ⟨go39, (a1_1 : Int).toNat * 3, none⟩ (.int .i64 a2_0)).setCell ⟨go39, (a1_1 : Int).toNat * 3 + 1, none⟩ (.int .i64 a2_1)).setCell ⟨go39, (a1_1 : Int).toNat * 3 + 2, none⟩ (.int .i64 a2_2))) ?hg ?ho ?hn ?hr ?_; (case ho => rfl); (case hg => rfl); (case hn => rfl); (case hr => first | (go_simp; done) | (go_simp; rfl)); intro w65 hw; have hg : w57.grownBy w65 (some go39) := (by rw [hw]; exact HP64.2); have hp_ : Kd.R k38 38 w65 w.heap.size (fun k_ => some k_ ≠ (.slice Ao55 t311.length co55 : Value).ownBlock ∧ k_ ≠ gb308) (.slice (some ⟨go39, 0, none⟩) t314.length co56) y320 := (by rw [hw, Ny320.out]; exact HP64.1); clear HP64; have n0_ := Aside0.mk (blk_grown (g := gb306) (o := .cells #[.int .i64 a0_0, .slice A0_1 l0_1.length c0_1, .slice A0_2 l0_2.length c0_2, .bool a0_3] 24 (0, 0)) (by (with_reducible repeat (first | refine blk_drewN ?_ _ | refine blk_drew ?_ | refine blk_alloc ?_ _)); exact BK306.out) hg (Kd.R_ne HO316.out BK306.out (by decide))); have n1_ := Aside0.mk (blk_grown (g := gb307) (o := .cells #[.int .i64 a1_0, .int .i64 a1_1] 29 (0, 0)) (by (with_reducible repeat (first | refine blk_drewN ?_ _ | refine blk_drew ?_ | refine blk_alloc ?_ _)); exact BK307.out) hg (Kd.R_ne HO316.out BK307.out (by decide))); have n2_ := Aside0.mk (blk_grown (g := gb308) (o := .cells #[.int .i64 a2_0, .int .i64 a2_1, .int .i64 a2_2] 38 (0, 0)) (by (with_reducible repeat (first | refine blk_drewN ?_ _ | refine blk_drew ?_ | refine blk_alloc ?_ _)); exact BK308.out) hg (Kd.R_away HO316.out (fun _ hk => hk.2))); have n3_ := Aside0.mk (blk_grown (g := gb309) (o := .cells #[.int .i64 0, .slice none 0 0, .slice none 0 0, .bool false] 24 (0, 0)) (by (with_reducible repeat (first | refine blk_drewN ?_ _ | refine blk_drew ?_ | refine blk_alloc ?_ _)); exact BK309.out) hg (Kd.R_ne HO316.out BK309.out (by decide))); have n4_ := Aside0.mk (Kd.R_after (v := (.slice (some ⟨go39, 0, none⟩) t314.length co56)) (v1 := (.slice (some ⟨go39, 0, none⟩) t314.length co56)) (ok := (fun k_ => k_ ≠ gb308)) (by (with_reducible repeat (first | apply Kd.R_alloc | apply Kd.R_drewN | apply Kd.R_drew)); exact Kd.R_mono HO313.out (fun _ hk => ⟨hk.2, hk.1⟩)) hg (.inl rfl)); have n5_ := Aside0.mk (hp_); have n6_ := Aside0.mk (blk_grown (g := gb318) (o := .cells #[.int .i64 t310, .slice Ao55 t311.length co55, .slice (some ⟨go39, 0, none⟩) t314.length co56, .bool t317] 24 (0, 0)) (by (with_reducible repeat (first | refine blk_drewN ?_ _ | refine blk_drew ?_ | refine blk_alloc ?_ _)); exact BK318.out) hg (Kd.R_ne HO316.out BK318.out (by decide))); have n7_ := Aside0.mk ((by rw [hw]; exact below_set (below_set (below_set (HB.out) GB39.out) GB39.out) GB39.out : Below w.heap.size w w65)); clear BK306; clear BK307; clear BK308; clear BK309; clear HO313; clear HO316; clear BK318; clear HB; have BK306 := n0_; have BK307 := n1_; have BK308 := n2_; have BK309 := n3_; have HO313 := n4_; have HO316 := n5_; have BK318 := n6_; have HB := n7_; clear n0_ n1_ n2_ n3_ n4_ n5_ n6_ n7_; clear hg hw hp_; have hcz66_0 : w65.cell? ⟨gb318, 0, none⟩ = some (.int .i64 t310) := (blk_cell BK318.out 0).trans rfl; have hcz66_1 : w65.cell? ⟨gb318, 1, none⟩ = some (.slice Ao55 t311.length co55) := (blk_cell BK318.out 1).trans rfl; have hcz66_2 : w65.cell? ⟨gb318, 2, none⟩ = some (.slice (some ⟨go39, 0, none⟩) t314.length co56) := (blk_cell BK318.out 2).trans rfl; have hcz66_3 : w65.cell? ⟨gb318, 3, none⟩ = some (.bool t317) := (blk_cell BK318.out 3).trans rfl; have hfz66_0 := blk_frozen BK318.out 0; have hfz66_1 := blk_frozen BK318.out 1; have hfz66_2 := blk_frozen BK318.out 2; have hfz66_3 := blk_frozen BK318.out 3; have hcz67_0 : w65.cell? ⟨gb309, 0, none⟩ = some (.int .i64 0) := (blk_cell BK309.out 0).trans rfl; have hcz67_1 : w65.cell? ⟨gb309, 1, none⟩ = some (.slice none 0 0) := (blk_cell BK309.out 1).trans rfl; have hcz67_2 : w65.cell? ⟨gb309, 2, none⟩ = some (.slice none 0 0) := (blk_cell BK309.out 2).trans rfl; have hcz67_3 : w65.cell? ⟨gb309, 3, none⟩ = some (.bool false) := (blk_cell BK309.out 3).trans rfl; have hfz67_0 := blk_frozen BK309.out 0; have hfz67_1 := blk_frozen BK309.out 1; have hfz67_2 := blk_frozen BK309.out 2; have hfz67_3 := blk_frozen BK309.out 3))
        refine bodyPost_ret (results_cell_row rfl _ _ gb309 24 #[.int .i64 t310, .slice Ao55 t311.length co55, .slice (some ⟨go39, 0, none⟩) t314.length co56, .bool t317] (0, 0) _ rfl (by (with_reducible repeat (first | refine blk_drewN ?_ _ | refine blk_drew ?_ | refine blk_alloc ?_ _)); refine blk_put (cs := #[.int .i64 t310, .slice Ao55 t311.length co55, .slice (some ⟨go39, 0, none⟩) t314.length co56, .bool false]) ?_ 3 _ rfl; (with_reducible repeat (first | refine blk_drewN ?_ _ | refine blk_drew ?_ | refine blk_alloc ?_ _)); refine blk_put (cs := #[.int .i64 t310, .slice Ao55 t311.length co55, .slice none 0 0, .bool false]) ?_ 2 _ rfl; (with_reducible repeat (first | refine blk_drewN ?_ _ | refine blk_drew ?_ | refine blk_alloc ?_ _)); refine blk_put (cs := #[.int .i64 t310, .slice none 0 0, .slice none 0 0, .bool false]) ?_ 1 _ rfl; (with_reducible repeat (first | refine blk_drewN ?_ _ | refine blk_drew ?_ | refine blk_alloc ?_ _)); refine blk_put (cs := #[.int .i64 0, .slice none 0 0, .slice none 0 0, .bool false]) ?_ 0 _ rfl; (with_reducible repeat (first | refine blk_drewN ?_ _ | refine blk_drew ?_ | refine blk_alloc ?_ _)); exact BK309.out) Tryd.underlying24 rfl (by kernel_rfl)) rfl ?_
        exact ⟨_, _, by first | rfl | (simp [errW_none, errW_some] <;> rfl) | (simp [*, errW_none, errW_some] <;> rfl), by (with_reducible repeat (first | apply Kd.R_alloc | apply Kd.R_drewN | apply Kd.R_drew)); exact Kd.R_mono (Kd.R_far (p := ⟨gb309, 3, none⟩) (Kd.R_far (p := ⟨gb309, 2, none⟩) (Kd.R_far (p := ⟨gb309, 1, none⟩) (Kd.R_far (p := ⟨gb309, 0, none⟩) (Kd.R_types HO313.out BK309.out (by decide)) (fun _ hk => hk.2) (.int .i64 t310)) (fun _ hk => hk.2) (.slice Ao55 t311.length co55)) (fun _ hk => hk.2) (.slice (some ⟨go39, 0, none⟩) t314.length co56)) (fun _ hk => hk.2) (.bool t317)) (fun _ hk => hk.1.2), by (with_reducible repeat (first | apply Kd.R_alloc | apply Kd.R_drewN | apply Kd.R_drew)); exact Kd.R_mono (Kd.R_far (p := ⟨gb309, 3, none⟩) (Kd.R_far (p := ⟨gb309, 2, none⟩) (Kd.R_far (p := ⟨gb309, 1, none⟩) (Kd.R_far (p := ⟨gb309, 0, none⟩) (Kd.R_types HO316.out BK309.out (by decide)) (fun _ hk => hk.2) (.int .i64 t310)) (fun _ hk => hk.2) (.slice Ao55 t311.length co55)) (fun _ hk => hk.2) (.slice (some ⟨go39, 0, none⟩) t314.length co56)) (fun _ hk => hk.2) (.bool t317)) (fun _ hk => hk.1.1), by repeat (first | (with_reducible first | exact HB.out | apply below_alloc | apply pw_below_drewN | apply below_drew1 | refine below_set ?_ GE306.out | refine below_set ?_ GE307.out | refine below_set ?_ GE308.out | refine below_set ?_ GE309.out | refine below_set ?_ GE318.out) | exact HB.out)⟩
      · rw [if_neg c38] at H
        exact absurd H (by simp)
    · rw [if_neg c37] at H
      exact absurd H (by simp)

end Go.Proofs.YtponmfnegdlppaaDoor.P

end
section
/- The document's charged, by hand. -/
namespace Go.Proofs.YtponmfnegdlppaaDoor.P
open Go.RowKit Go.Proofs.YtponmfnegdlppaaDoorW.PrintWords Go.Proofs.YtponmfnegdlppaaDoorW.PrintLast Go.Proofs.YtponmfnegdlppaaDoorW.PrintMore
set_option linter.unusedVariables false
set_option linter.unusedSimpArgs false

def winnowref19_charged.f (a0_0 : Int) (l0_1 : List (S38)) (l0_2 : List (S38)) (a0_3 : Bool) (a1_0 : Int) (a1_1 : Int) : Option (Int × (List (S38)) × (List (S38)) × Bool) := (winnowref19_at.f a0_0 l0_1 l0_2 a0_3 a1_0 a1_1).bind fun x => ((winnowref19_with.f a0_0 l0_1 l0_2 a0_3 a1_0 a1_1 0 x.2.1 (wrap64 (x.2.2 + 1))).bind fun y => (some (y.1, y.2.1, y.2.2.1, ((wrap64 (x.2.2 + 1)) == a0_0))))
set_option maxHeartbeats 4000000 in
set_option maxRecDepth 100000 in
theorem winnowref19_charged.calls (a0_0 : Int) (A0_1 : Option Addr) (c0_1 : Nat) (l0_1 : List (S38)) (A0_2 : Option Addr) (c0_2 : Nat) (l0_2 : List (S38)) (a0_3 : Bool) (a1_0 : Int) (a1_1 : Int) (r1 : Int) (r2 : List (S38)) (r3 : List (S38)) (r4 : Bool) (w : World) (hr0_1 : Kd.C k38 w A0_1 l0_1.length l0_1) (hc0_1 : l0_1.length ≤ c0_1) (hr0_2 : Kd.C k38 w A0_2 l0_2.length l0_2) (hc0_2 : l0_2.length ≤ c0_2) (h : winnowref19_charged.f a0_0 l0_1 l0_2 a0_3 a1_0 a1_1 = some (r1, r2, r3, r4)) :
    Calls Tryd.prog 51 #[.agg #[.int .i64 a0_0, .slice A0_1 l0_1.length c0_1, .slice A0_2 l0_2.length c0_2, .bool a0_3], .agg #[.int .i64 a1_0, .int .i64 a1_1]] w fun e w' => ∃ v1_ v2_ : Value, e = .returned (.agg #[.int .i64 r1, v1_, v2_, .bool r4]) ∧ Kd.R k38 38 w' w.heap.size (fun k_ => some k_ ≠ (v2_ : Value).ownBlock) v1_ r2 ∧ Kd.R k38 38 w' w.heap.size (fun k_ => some k_ ≠ (v1_ : Value).ownBlock) v2_ r3 ∧ Below w.heap.size w w' := by
  unfold winnowref19_charged.f at h
  replace h := Option.bind_eq_some_iff.mp h
  obtain ⟨⟨s0, s1, s2⟩, h1, h⟩ := h
  replace h := Option.bind_eq_some_iff.mp h
  obtain ⟨⟨t, m0, m1, fl⟩, h2, h⟩ := h
  dsimp only at h h2
  obtain ⟨j, hj⟩ : ∃ j : Int, wrap64 (s2 + 1) = j := ⟨_, rfl⟩
  rw [hj] at h h2
  have hjw : IntKind.i64.wrap (s2 + 1) = j := (i64_w _).trans hj
  simp only [Option.some.injEq, Prod.mk.injEq] at h
  obtain ⟨rfl, rfl, rfl, rfl⟩ := h
  have HR1 := Aside0.mk hr0_1
  have HC1 := Aside0.mk hc0_1
  have HR2 := Aside0.mk hr0_2
  have HC2 := Aside0.mk hc0_2
  have H1 := Aside0.mk h1
  have H2 := Aside0.mk h2
  clear hr0_1 hc0_1 hr0_2 hc0_2 h1 h2 hj
  have hu24 := Tryd.underlying24
  have hu29 := Tryd.underlying29
  have hu38 := Tryd.underlying38
  have hE0 := (((Env.start w).push #[.int .i64 a0_0, .slice A0_1 l0_1.length c0_1, .slice A0_2 l0_2.length c0_2, .bool a0_3] 24).push #[.int .i64 a1_0, .int .i64 a1_1] 29).push #[.int .i64 0, .slice none 0 0, .slice none 0 0, .bool false] 24
  have z1 : (w.alloc (.cells #[.int .i64 a0_0, .slice A0_1 l0_1.length c0_1, .slice A0_2 l0_2.length c0_2, .bool a0_3] 24)).heap.size = w.heap.size + 1 := by simp
  have z2 : ((w.alloc (.cells #[.int .i64 a0_0, .slice A0_1 l0_1.length c0_1, .slice A0_2 l0_2.length c0_2, .bool a0_3] 24)).alloc (.cells #[.int .i64 a1_0, .int .i64 a1_1] 29)).heap.size = w.heap.size + 1 + 1 := by simp
  rw [z1, z2] at hE0
  clear z1 z2
  obtain ⟨g2, hg2⟩ : ∃ g, g = w.heap.size + 1 + 1 := ⟨_, rfl⟩
  obtain ⟨g1, hg1⟩ : ∃ g, g = w.heap.size + 1 := ⟨_, rfl⟩
  obtain ⟨g0, hg0⟩ : ∃ g, g = w.heap.size := ⟨_, rfl⟩
  rw [← hg2, ← hg1, ← hg0] at hE0
  obtain ⟨W3, hW3, hE⟩ : ∃ W3, ((w.alloc (.cells #[.int .i64 a0_0, .slice A0_1 l0_1.length c0_1, .slice A0_2 l0_2.length c0_2, .bool a0_3] 24)).alloc (.cells #[.int .i64 a1_0, .int .i64 a1_1] 29)).alloc (.cells #[.int .i64 0, .slice none 0 0, .slice none 0 0, .bool false] 24) = W3 ∧ Env w _ _ W3 := ⟨_, rfl, hE0⟩
  have HE := Aside0.mk hE
  have HG2 := Aside0.mk hg2
  have HG1 := Aside0.mk hg1
  have HG0 := Aside0.mk hg0
  have HW3 := Aside0.mk hW3
  clear hE hE0 hg2 hg1 hg0 hW3
  go_enter Tryd.func51, Tryd.ntmps51
  go_wp2_with fail
  rw [← HG2.out, ← HG1.out, ← HG0.out, HW3.out]
  clear HG0 HG1 HG2 HW3
  refine (winnowref19_at.calls a0_0 _ _ l0_1 _ _ l0_2 a0_3 a1_0 a1_1 s0 s1 s2 _ (HE.out.came HR1.out) HC1.out (HE.out.came HR2.out) HC2.out H1.out).mono ?_
  rintro e w1 ⟨rfl, hB⟩
  have hE := (HE.out.below hB)
  clear hB HE
  have x20 : w1.cell? ⟨g0, 0, none⟩ = some (.int .i64 a0_0) := hE.at_ 2 0 rfl rfl
  have x21 : w1.cell? ⟨g0, 1, none⟩ = some (.slice A0_1 l0_1.length c0_1) := hE.at_ 2 1 rfl rfl
  have x22 : w1.cell? ⟨g0, 2, none⟩ = some (.slice A0_2 l0_2.length c0_2) := hE.at_ 2 2 rfl rfl
  have x23 : w1.cell? ⟨g0, 3, none⟩ = some (.bool a0_3) := hE.at_ 2 3 rfl rfl
  have x30 : w1.cell? ⟨g1, 0, none⟩ = some (.int .i64 a1_0) := hE.at_ 1 0 rfl rfl
  have x31 : w1.cell? ⟨g1, 1, none⟩ = some (.int .i64 a1_1) := hE.at_ 1 1 rfl rfl
  have hE0 := hE.push #[.int .i64 s0, .int .i64 s1, .int .i64 s2] 38
  clear hE
  go_upto_region 2 with fail
  obtain ⟨g3, hg3⟩ : ∃ g, g = w1.heap.size := ⟨_, rfl⟩
  rw [← hg3] at hE0 ⊢
  generalize w1.alloc (.cells #[.int .i64 s0, .int .i64 s1, .int .i64 s2] 38) = w2 at hE0 ⊢
  clear x20 x21 x22 x23 x30 x31 hg3
  have y0 := hE0.at_ 0 0 rfl rfl
  have y1 := hE0.at_ 0 1 rfl rfl
  have y2 := hE0.at_ 0 2 rfl rfl
  have f0 : w2.frozen? ⟨g3, 0, none⟩ = false := hE0.fr_ 0 0 rfl
  have f2 : w2.frozen? ⟨g3, 2, none⟩ = false := hE0.fr_ 0 2 rfl
  have hE := (hE0.set 0 (.int .i64 0)).set 2 (.int .i64 j)
  have HE0 := Aside0.mk hE
  clear hE hE0
  go_upto_region 4 with fail
  have hE := HE0.out
  generalize (w2.setCell ⟨g3, 0, none⟩ (.int .i64 0)).setCell ⟨g3, 2, none⟩ (.int .i64 j) = w3 at hE ⊢
  clear HE0 y0 y1 y2 f0 f2
  have x20 : w3.cell? ⟨g0, 0, none⟩ = some (.int .i64 a0_0) := hE.at_ 3 0 rfl rfl
  have x21 : w3.cell? ⟨g0, 1, none⟩ = some (.slice A0_1 l0_1.length c0_1) := hE.at_ 3 1 rfl rfl
  have x22 : w3.cell? ⟨g0, 2, none⟩ = some (.slice A0_2 l0_2.length c0_2) := hE.at_ 3 2 rfl rfl
  have x23 : w3.cell? ⟨g0, 3, none⟩ = some (.bool a0_3) := hE.at_ 3 3 rfl rfl
  have x30 : w3.cell? ⟨g1, 0, none⟩ = some (.int .i64 a1_0) := hE.at_ 2 0 rfl rfl
  have x31 : w3.cell? ⟨g1, 1, none⟩ = some (.int .i64 a1_1) := hE.at_ 2 1 rfl rfl
  have x40 : w3.cell? ⟨g3, 0, none⟩ = some (.int .i64 0) := hE.at_ 0 0 rfl rfl
  have x41 : w3.cell? ⟨g3, 1, none⟩ = some (.int .i64 s1) := hE.at_ 0 1 rfl rfl
  have x42 : w3.cell? ⟨g3, 2, none⟩ = some (.int .i64 j) := hE.at_ 0 2 rfl rfl
  have HE := Aside0.mk hE
  clear hE
  go_wp2_with fail
  clear x20 x21 x22 x23 x30 x31 x40 x41 x42
  refine (winnowref19_with.calls a0_0 _ _ l0_1 _ _ l0_2 a0_3 a1_0 a1_1 0 s1 j t m0 m1 fl _ (HE.out.came HR1.out) HC1.out (HE.out.came HR2.out) HC2.out H2.out).mono ?_
  rintro e w4 ⟨v0, v1, rfl, q0, q1, hB⟩
  have hE := HE.out.rows2 hB rfl q0 q1 1 2 (by decide) (by decide) (by decide)
  obtain ⟨A0, c0, rfl⟩ := Kd.R_slice q0
  obtain ⟨A1, c1, rfl⟩ := Kd.R_slice q1
  clear HE hB q0 q1
  have hE0 := hE.push #[.int .i64 t, .slice A0 m0.length c0, .slice A1 m1.length c1, .bool fl] 24
  clear hE
  go_upto_region 5 with fail
  obtain ⟨g4, hg4⟩ : ∃ g, g = w4.heap.size := ⟨_, rfl⟩
  rw [← hg4] at hE0 ⊢
  generalize w4.alloc (.cells #[.int .i64 t, .slice A0 m0.length c0, .slice A1 m1.length c1, .bool fl] 24) = w5 at hE0 ⊢
  clear hg4
  have x0 : w5.cell? ⟨g0, 0, none⟩ = some (.int .i64 a0_0) := hE0.at_ 4 0 rfl rfl
  have x1 : w5.cell? ⟨g3, 2, none⟩ = some (.int .i64 j) := hE0.at_ 1 2 rfl rfl
  have x2 : w5.cell? ⟨g4, 3, none⟩ = some (.bool fl) := hE0.at_ 0 3 rfl rfl
  have f2 : w5.frozen? ⟨g4, 3, none⟩ = false := hE0.fr_ 0 3 rfl
  have hE := hE0.set 3 (.bool (j == a0_0))
  have HE0 := Aside0.mk hE
  clear hE hE0
  go_upto_region 6 with fail
  have hE := HE0.out
  generalize w5.setCell ⟨g4, 3, none⟩ (.bool (j == a0_0)) = w6 at hE ⊢
  clear HE0 x0 x1 x2 f2
  have x20 : w6.cell? ⟨g4, 0, none⟩ = some (.int .i64 t) := hE.at_ 0 0 rfl rfl
  have x21 : w6.cell? ⟨g4, 1, none⟩ = some (.slice A0 m0.length c0) := hE.at_ 0 1 rfl rfl
  have x22 : w6.cell? ⟨g4, 2, none⟩ = some (.slice A1 m1.length c1) := hE.at_ 0 2 rfl rfl
  have x23 : w6.cell? ⟨g4, 3, none⟩ = some (.bool (j == a0_0)) := hE.at_ 0 3 rfl rfl
  have x30 : w6.cell? ⟨g2, 0, none⟩ = some (.int .i64 0) := hE.at_ 2 0 rfl rfl
  have x31 : w6.cell? ⟨g2, 1, none⟩ = some (.slice none 0 0) := hE.at_ 2 1 rfl rfl
  have x32 : w6.cell? ⟨g2, 2, none⟩ = some (.slice none 0 0) := hE.at_ 2 2 rfl rfl
  have x33 : w6.cell? ⟨g2, 3, none⟩ = some (.bool false) := hE.at_ 2 3 rfl rfl
  have f0 : w6.frozen? ⟨g2, 0, none⟩ = false := hE.fr_ 2 0 rfl
  have f1 : w6.frozen? ⟨g2, 1, none⟩ = false := hE.fr_ 2 1 rfl
  have f2 : w6.frozen? ⟨g2, 2, none⟩ = false := hE.fr_ 2 2 rfl
  have f3 : w6.frozen? ⟨g2, 3, none⟩ = false := hE.fr_ 2 3 rfl
  have HE := Aside0.mk hE
  clear hE
  go_wp2_with fail
  have hE := (((((HE.out.sub (B' := [⟨g2, #[.int .i64 0, .slice none 0 0, .slice none 0 0, .bool false], 24⟩]) (.cons _ (.cons _ (.cons_cons _ (List.nil_sublist _)))) (List.Sublist.refl _)).set 0 (.int .i64 t)).set 1 (.slice A0 m0.length c0)).set 2 (.slice A1 m1.length c1)).set 3 (.bool (j == a0_0)))
  clear HE x20 x21 x22 x23 x30 x31 x32 x33 f0 f1 f2 f3
  refine bodyPost_ret (results_cell_row rfl _ _ g2 24 #[.int .i64 t, .slice A0 m0.length c0, .slice A1 m1.length c1, .bool (j == a0_0)] (0, 0) _ rfl (hE.blk_ 0 rfl) Tryd.underlying24 rfl (by kernel_rfl)) rfl ?_
  have q := hE.own2_ 0 1 rfl rfl (by decide)
  exact ⟨_, _, rfl, q.1, q.2, hE.out⟩
end Go.Proofs.YtponmfnegdlppaaDoor.P

end
section
-- Written by a program of this session (wip/tools/hprint.py, over the kit's printer), not by hand. Lean checks it.
namespace Go.Proofs.YtponmfnegdlppaaDoor.P
open Go.RowKit Go.Proofs.YtponmfnegdlppaaDoorW.PrintWords Go.Proofs.YtponmfnegdlppaaDoorW.PrintLast Go.Proofs.YtponmfnegdlppaaDoorW.PrintMore
attribute [local go_sem] max2_int min2_int max_two min_two max_three min_three max_four min_four
set_option linter.unusedVariables false
set_option linter.unusedSimpArgs false

/-! ### winnowref19_good: function 42 -/
def winnowref19_good.j0 : Nat → Int → Bool → Int → Int → Int → Option (Bool)
  | 0, _, _, _, _, _ => none
  | k + 1, x1, x34, x138000, x138001, x138002 => if x34 = true then (some false) else (if x138000 = 0 then (some (x138001 == x138002)) else (if x138001 = (wrap64 (x138002 + 1)) then (some (decide (x138002 < x1))) else (some false)))
def winnowref19_good.f (k : Nat) (a0_0 : Int) (a0_1 : Int) (a0_2 : Int) (a1 : Int) (a2 : Bool) : Option (Bool) := if a0_0 < 0 then (winnowref19_good.j0 k a1 true a0_0 a0_1 a0_2) else (if a0_0 > 3 then (winnowref19_good.j0 k a1 true a0_0 a0_1 a0_2) else (if a0_0 = 2 then (if a2 = true then (if a0_2 < 0 then (winnowref19_good.j0 k a1 true a0_0 a0_1 a0_2) else (winnowref19_good.j0 k a1 (decide (a0_2 > a1)) a0_0 a0_1 a0_2)) else (winnowref19_good.j0 k a1 true a0_0 a0_1 a0_2)) else (if a0_2 < 0 then (winnowref19_good.j0 k a1 true a0_0 a0_1 a0_2) else (winnowref19_good.j0 k a1 (decide (a0_2 > a1)) a0_0 a0_1 a0_2))))
theorem winnowref19_good.mono_l : ∀ k, (∀ y0 y1 y2 y3 y4, LeO (winnowref19_good.j0 k y0 y1 y2 y3 y4) (winnowref19_good.j0 (k + 1) y0 y1 y2 y3 y4))
  | 0 => fun _ _ _ _ _ r h => by simp [winnowref19_good.j0] at h
  | k + 1 => by
    have ih0 := winnowref19_good.mono_l k
    · intro y0 y1 y2 y3 y4
      unfold winnowref19_good.j0
      repeat' first
      | (with_reducible exact ih0 _ _ _ _ _)
      | (with_reducible exact LeO.refl _)
      | (with_reducible exact LeO.none _)
      | (with_reducible refine LeO.ite ?_ ?_)
      | (with_reducible refine LeO.bind ?_ (fun _ => ?_))
      | exact ih0 _ _ _ _ _
      | exact LeO.none _
      | refine LeO.ite ?_ ?_
      | refine LeO.bind ?_ (fun _ => ?_)
theorem winnowref19_good.mono : ∀ a0 a1 a2 a3 a4 k, LeO (winnowref19_good.f k a0 a1 a2 a3 a4) (winnowref19_good.f (k + 1) a0 a1 a2 a3 a4) := by
  intro a0 a1 a2 a3 a4 k
  have ih0 := winnowref19_good.mono_l k
  unfold winnowref19_good.f
  repeat' first
      | (with_reducible exact ih0 _ _ _ _ _)
      | (with_reducible exact LeO.refl _)
      | (with_reducible exact LeO.none _)
      | (with_reducible refine LeO.ite ?_ ?_)
      | (with_reducible refine LeO.bind ?_ (fun _ => ?_))
      | exact ih0 _ _ _ _ _
      | exact LeO.none _
      | refine LeO.ite ?_ ?_
      | refine LeO.bind ?_ (fun _ => ?_)
set_option maxHeartbeats 8000000 in
set_option maxRecDepth 100000 in
theorem winnowref19_good.calls (k : Nat) (a0_0 : Int) (a0_1 : Int) (a0_2 : Int) (a1 : Int) (a2 : Bool) (r : Bool) (w : World) (h : winnowref19_good.f k a0_0 a0_1 a0_2 a1 a2 = some r) :
    Calls Tryd.prog 42 #[.agg #[.int .i64 a0_0, .int .i64 a0_1, .int .i64 a0_2], .int .i64 a1, .bool a2] w fun e w' => e = .returned (.bool r) ∧ Below w.heap.size w w' := by
  have hu38 := Tryd.underlying38
  have HB := Aside0.mk (Below.refl w.heap.size w)
  have H : (if a0_0 < 0 then (winnowref19_good.j0 k a1 true a0_0 a0_1 a0_2) else (if a0_0 > 3 then (winnowref19_good.j0 k a1 true a0_0 a0_1 a0_2) else (if a0_0 = 2 then (if a2 = true then (if a0_2 < 0 then (winnowref19_good.j0 k a1 true a0_0 a0_1 a0_2) else (winnowref19_good.j0 k a1 (decide (a0_2 > a1)) a0_0 a0_1 a0_2)) else (winnowref19_good.j0 k a1 true a0_0 a0_1 a0_2)) else (if a0_2 < 0 then (winnowref19_good.j0 k a1 true a0_0 a0_1 a0_2) else (winnowref19_good.j0 k a1 (decide (a0_2 > a1)) a0_0 a0_1 a0_2))))) = some r := h
  clear h
  have HC4 := Aside0.mk H
  clear H
  go_enter Tryd.func42, Tryd.ntmps42
  go_upto_region 1 with (first | ((with_reducible refine gate_dst (N := 3) rfl ?_); refine box_event ?hg (N := 3) ?hd (cs := #[.int .i64 a0_0, .int .i64 a0_1, .int .i64 a0_2]) (t := 38) ?hr ?_; (case hd => rfl); (case hg => rfl); (case hr => first | (go_simp; done) | (go_simp; rfl)); intro gb137 hg w5 hbox hb; have n0_ := Aside0.mk (below_step (by repeat (first | (with_reducible first | exact HB.out | apply below_alloc | apply pw_below_drewN | apply below_drew1) | exact HB.out)) hb); have n1_ := Aside0.mk (hbox); have n2_ := Aside0.mk ((by rw [hg]; exact (below_size (by repeat (first | (with_reducible first | exact HB.out | apply below_alloc | apply pw_below_drewN | apply below_drew1) | exact HB.out))) : w.heap.size ≤ gb137)); have n3_ := Aside0.mk ((by rw [hg]; exact (below_size (by repeat (first | (with_reducible first | exact HB.out | apply below_alloc | apply pw_below_drewN | apply below_drew1) | exact HB.out))) : w.heap.size ≤ gb137)); clear HB; have HB := n0_; have BK137 := n1_; have GW137 := n2_; have GE137 := n3_; clear n0_ n1_ n2_ n3_; clear hb hbox hg))
  (try simp only [Act.put, List.setIfInBounds_toArray, List.set_cons_zero, List.set_cons_succ])
  go_cut [34] (fun v34 wc => ∃ (kq : Nat) (x34_3 : Bool), v34 = .bool x34_3 ∧ Aside0 (winnowref19_good.j0 kq a1 x34_3 a0_0 a0_1 a0_2 = some r) ∧ Aside0 (kq ≤ k) ∧ Aside0 (wc.heap[gb137]? = some (.cells #[.int .i64 a0_0, .int .i64 a0_1, .int .i64 a0_2] 38 (0, 0))) ∧ Aside0 (Below w.heap.size w wc))
  case first =>
    have H := HC4.out
    clear HC4
    by_cases c6 : a0_0 < 0
    · rw [if_pos c6] at H
      have c6b0 : decide (a0_0 < 0) = true := decide_eq_true c6
      clear c6
      (first | rw [c6b0] | (simp only [i64_w, i32_w]; rw [c6b0]) | skip)
      have H' := Aside0.mk H
      clear H
      have hcz7_0 : w5.cell? ⟨gb137, 0, none⟩ = some (.int .i64 a0_0) := (blk_cell BK137.out 0).trans rfl
      have hcz7_1 : w5.cell? ⟨gb137, 1, none⟩ = some (.int .i64 a0_1) := (blk_cell BK137.out 1).trans rfl
      have hcz7_2 : w5.cell? ⟨gb137, 2, none⟩ = some (.int .i64 a0_2) := (blk_cell BK137.out 2).trans rfl
      have hfz7_0 := blk_frozen BK137.out 0
      have hfz7_1 := blk_frozen BK137.out 1
      have hfz7_2 := blk_frozen BK137.out 2
      go_wp2
      go_meet
      case rel => exact ⟨_, (true), (by first | rfl | (simp; done) | (simp [*]; done)), H', ⟨by first | omega | exact Nat.le_refl _⟩, ⟨by (with_reducible repeat (first | refine blk_drewN ?_ _ | refine blk_drew ?_ | refine blk_alloc ?_ _)); exact BK137.out⟩, ⟨by repeat (first | (with_reducible first | exact HB.out | apply below_alloc | apply pw_below_drewN | apply below_drew1 | refine below_set ?_ GE137.out) | exact HB.out)⟩⟩
    · rw [if_neg c6] at H
      have c6b0 : decide (a0_0 < 0) = false := decide_eq_false c6
      clear c6
      (first | rw [c6b0] | (simp only [i64_w, i32_w]; rw [c6b0]) | skip)
      by_cases c8 : a0_0 > 3
      · rw [if_pos c8] at H
        have c8b0 : decide (3 < a0_0) = true := decide_eq_true c8
        clear c8
        have H' := Aside0.mk H
        clear H
        have hcz9_0 : w5.cell? ⟨gb137, 0, none⟩ = some (.int .i64 a0_0) := (blk_cell BK137.out 0).trans rfl
        have hcz9_1 : w5.cell? ⟨gb137, 1, none⟩ = some (.int .i64 a0_1) := (blk_cell BK137.out 1).trans rfl
        have hcz9_2 : w5.cell? ⟨gb137, 2, none⟩ = some (.int .i64 a0_2) := (blk_cell BK137.out 2).trans rfl
        have hfz9_0 := blk_frozen BK137.out 0
        have hfz9_1 := blk_frozen BK137.out 1
        have hfz9_2 := blk_frozen BK137.out 2
        go_wp2
        go_meet
        case rel => exact ⟨_, (true), (by first | rfl | (simp; done) | (simp [*]; done)), H', ⟨by first | omega | exact Nat.le_refl _⟩, ⟨by (with_reducible repeat (first | refine blk_drewN ?_ _ | refine blk_drew ?_ | refine blk_alloc ?_ _)); exact BK137.out⟩, ⟨by repeat (first | (with_reducible first | exact HB.out | apply below_alloc | apply pw_below_drewN | apply below_drew1 | refine below_set ?_ GE137.out) | exact HB.out)⟩⟩
      · rw [if_neg c8] at H
        have c8b0 : decide (3 < a0_0) = false := decide_eq_false c8
        clear c8
        by_cases c10 : a0_0 = 2
        · rw [if_pos c10] at H
          have c10b0 : (a0_0 == 2) = true := beq_iff_eq.mpr c10
          have c10b1 : (a0_0 != 2) = false := bne_eq_false_iff_eq.mpr c10
          clear c10
          by_cases c11 : a2 = true
          · subst c11
            have H1 : (if a0_2 < 0 then (winnowref19_good.j0 k a1 true a0_0 a0_1 a0_2) else (winnowref19_good.j0 k a1 (decide (a0_2 > a1)) a0_0 a0_1 a0_2)) = some r := by rw [if_pos rfl] at H; exact H
            clear H
            have H := H1
            clear H1
            by_cases c12 : a0_2 < 0
            · rw [if_pos c12] at H
              have c12b0 : decide (a0_2 < 0) = true := decide_eq_true c12
              clear c12
              have H' := Aside0.mk H
              clear H
              have hcz13_0 : w5.cell? ⟨gb137, 0, none⟩ = some (.int .i64 a0_0) := (blk_cell BK137.out 0).trans rfl
              have hcz13_1 : w5.cell? ⟨gb137, 1, none⟩ = some (.int .i64 a0_1) := (blk_cell BK137.out 1).trans rfl
              have hcz13_2 : w5.cell? ⟨gb137, 2, none⟩ = some (.int .i64 a0_2) := (blk_cell BK137.out 2).trans rfl
              have hfz13_0 := blk_frozen BK137.out 0
              have hfz13_1 := blk_frozen BK137.out 1
              have hfz13_2 := blk_frozen BK137.out 2
              go_wp2
              go_meet
              case rel => exact ⟨_, (true), (by first | rfl | (simp; done) | (simp [*]; done)), H', ⟨by first | omega | exact Nat.le_refl _⟩, ⟨by (with_reducible repeat (first | refine blk_drewN ?_ _ | refine blk_drew ?_ | refine blk_alloc ?_ _)); exact BK137.out⟩, ⟨by repeat (first | (with_reducible first | exact HB.out | apply below_alloc | apply pw_below_drewN | apply below_drew1 | refine below_set ?_ GE137.out) | exact HB.out)⟩⟩
            · rw [if_neg c12] at H
              have c12b0 : decide (a0_2 < 0) = false := decide_eq_false c12
              clear c12
              have H' := Aside0.mk H
              clear H
              have hcz14_0 : w5.cell? ⟨gb137, 0, none⟩ = some (.int .i64 a0_0) := (blk_cell BK137.out 0).trans rfl
              have hcz14_1 : w5.cell? ⟨gb137, 1, none⟩ = some (.int .i64 a0_1) := (blk_cell BK137.out 1).trans rfl
              have hcz14_2 : w5.cell? ⟨gb137, 2, none⟩ = some (.int .i64 a0_2) := (blk_cell BK137.out 2).trans rfl
              have hfz14_0 := blk_frozen BK137.out 0
              have hfz14_1 := blk_frozen BK137.out 1
              have hfz14_2 := blk_frozen BK137.out 2
              go_wp2
              go_meet
              case rel => exact ⟨_, (decide (a0_2 > a1)), (by first | rfl | (simp; done) | (simp [*]; done)), H', ⟨by first | omega | exact Nat.le_refl _⟩, ⟨by (with_reducible repeat (first | refine blk_drewN ?_ _ | refine blk_drew ?_ | refine blk_alloc ?_ _)); exact BK137.out⟩, ⟨by repeat (first | (with_reducible first | exact HB.out | apply below_alloc | apply pw_below_drewN | apply below_drew1 | refine below_set ?_ GE137.out) | exact HB.out)⟩⟩
          · replace c11 := Bool.eq_false_iff.mpr c11
            subst c11
            have H1 : (winnowref19_good.j0 k a1 true a0_0 a0_1 a0_2) = some r := by rw [if_neg (show ¬ (false = true) by decide)] at H; exact H
            clear H
            have H := H1
            clear H1
            have H' := Aside0.mk H
            clear H
            have hcz15_0 : w5.cell? ⟨gb137, 0, none⟩ = some (.int .i64 a0_0) := (blk_cell BK137.out 0).trans rfl
            have hcz15_1 : w5.cell? ⟨gb137, 1, none⟩ = some (.int .i64 a0_1) := (blk_cell BK137.out 1).trans rfl
            have hcz15_2 : w5.cell? ⟨gb137, 2, none⟩ = some (.int .i64 a0_2) := (blk_cell BK137.out 2).trans rfl
            have hfz15_0 := blk_frozen BK137.out 0
            have hfz15_1 := blk_frozen BK137.out 1
            have hfz15_2 := blk_frozen BK137.out 2
            go_wp2
            go_meet
            case rel => exact ⟨_, (true), (by first | rfl | (simp; done) | (simp [*]; done)), H', ⟨by first | omega | exact Nat.le_refl _⟩, ⟨by (with_reducible repeat (first | refine blk_drewN ?_ _ | refine blk_drew ?_ | refine blk_alloc ?_ _)); exact BK137.out⟩, ⟨by repeat (first | (with_reducible first | exact HB.out | apply below_alloc | apply pw_below_drewN | apply below_drew1 | refine below_set ?_ GE137.out) | exact HB.out)⟩⟩
        · rw [if_neg c10] at H
          have c10b0 : (a0_0 == 2) = false := beq_eq_false_iff_ne.mpr c10
          have c10b1 : (a0_0 != 2) = true := bne_iff_ne.mpr c10
          by_cases c16 : a0_2 < 0
          · rw [if_pos c16] at H
            have c16b0 : decide (a0_2 < 0) = true := decide_eq_true c16
            clear c16
            have H' := Aside0.mk H
            clear H
            have hcz17_0 : w5.cell? ⟨gb137, 0, none⟩ = some (.int .i64 a0_0) := (blk_cell BK137.out 0).trans rfl
            have hcz17_1 : w5.cell? ⟨gb137, 1, none⟩ = some (.int .i64 a0_1) := (blk_cell BK137.out 1).trans rfl
            have hcz17_2 : w5.cell? ⟨gb137, 2, none⟩ = some (.int .i64 a0_2) := (blk_cell BK137.out 2).trans rfl
            have hfz17_0 := blk_frozen BK137.out 0
            have hfz17_1 := blk_frozen BK137.out 1
            have hfz17_2 := blk_frozen BK137.out 2
            go_wp2
            go_meet
            case rel => exact ⟨_, (true), (by first | rfl | (simp; done) | (simp [*]; done)), H', ⟨by first | omega | exact Nat.le_refl _⟩, ⟨by (with_reducible repeat (first | refine blk_drewN ?_ _ | refine blk_drew ?_ | refine blk_alloc ?_ _)); exact BK137.out⟩, ⟨by repeat (first | (with_reducible first | exact HB.out | apply below_alloc | apply pw_below_drewN | apply below_drew1 | refine below_set ?_ GE137.out) | exact HB.out)⟩⟩
          · rw [if_neg c16] at H
            have c16b0 : decide (a0_2 < 0) = false := decide_eq_false c16
            clear c16
            have H' := Aside0.mk H
            clear H
            have hcz18_0 : w5.cell? ⟨gb137, 0, none⟩ = some (.int .i64 a0_0) := (blk_cell BK137.out 0).trans rfl
            have hcz18_1 : w5.cell? ⟨gb137, 1, none⟩ = some (.int .i64 a0_1) := (blk_cell BK137.out 1).trans rfl
            have hcz18_2 : w5.cell? ⟨gb137, 2, none⟩ = some (.int .i64 a0_2) := (blk_cell BK137.out 2).trans rfl
            have hfz18_0 := blk_frozen BK137.out 0
            have hfz18_1 := blk_frozen BK137.out 1
            have hfz18_2 := blk_frozen BK137.out 2
            go_wp2
            go_meet
            case rel => exact ⟨_, (decide (a0_2 > a1)), (by first | rfl | (simp; done) | (simp [*]; done)), H', ⟨by first | omega | exact Nat.le_refl _⟩, ⟨by (with_reducible repeat (first | refine blk_drewN ?_ _ | refine blk_drew ?_ | refine blk_alloc ?_ _)); exact BK137.out⟩, ⟨by repeat (first | (with_reducible first | exact HB.out | apply below_alloc | apply pw_below_drewN | apply below_drew1 | refine below_set ?_ GE137.out) | exact HB.out)⟩⟩
  case rest =>
    clear HC4
    try clear c1
    try clear p2
    try clear c4
    try clear c6
    try clear c6b0
    try clear c8
    try clear c8b0
    try clear c10
    try clear c10b0
    try clear c10b1
    try clear c11
    try clear c12
    try clear c12b0
    try clear c16
    try clear c16b0
    try clear hcz13_0
    try clear hcz13_1
    try clear hcz13_2
    try clear hcz14_0
    try clear hcz14_1
    try clear hcz14_2
    try clear hcz15_0
    try clear hcz15_1
    try clear hcz15_2
    try clear hcz17_0
    try clear hcz17_1
    try clear hcz17_2
    try clear hcz18_0
    try clear hcz18_1
    try clear hcz18_2
    try clear hcz7_0
    try clear hcz7_1
    try clear hcz7_2
    try clear hcz9_0
    try clear hcz9_1
    try clear hcz9_2
    try clear hfz13_0
    try clear hfz13_1
    try clear hfz13_2
    try clear hfz14_0
    try clear hfz14_1
    try clear hfz14_2
    try clear hfz15_0
    try clear hfz15_1
    try clear hfz15_2
    try clear hfz17_0
    try clear hfz17_1
    try clear hfz17_2
    try clear hfz18_0
    try clear hfz18_1
    try clear hfz18_2
    try clear hfz7_0
    try clear hfz7_1
    try clear hfz7_2
    try clear hfz9_0
    try clear hfz9_1
    try clear hfz9_2
    obtain ⟨kq, x34_3, rfl, HA, HJ3, BK137, HB⟩ := hcut
    cases kq with
    | zero => exact absurd HA.out (by simp [winnowref19_good.j0])
    | succ kj3 =>
      have H := HA.out
      clear HA
      simp only [winnowref19_good.j0] at H
      by_cases c19 : x34_3 = true
      · subst c19
        have H1 : (some false) = some r := by rw [if_pos rfl] at H; exact H
        clear H
        have H := H1
        clear H1
        obtain rfl := Option.some.inj H
        go_wp2
        go_ret
        exact ⟨by first | rfl | (simp [errW_none, errW_some] <;> rfl) | (simp [*, errW_none, errW_some] <;> rfl), by repeat (first | (with_reducible first | exact HB.out | apply below_alloc | apply pw_below_drewN | apply below_drew1 | refine below_set ?_ GE137.out) | exact HB.out)⟩
      · replace c19 := Bool.eq_false_iff.mpr c19
        subst c19
        have H1 : (if a0_0 = 0 then (some (a0_1 == a0_2)) else (if a0_1 = (wrap64 (a0_2 + 1)) then (some (decide (a0_2 < a1))) else (some false))) = some r := by rw [if_neg (show ¬ (false = true) by decide)] at H; exact H
        clear H
        have H := H1
        clear H1
        by_cases c20 : a0_0 = 0
        · rw [if_pos c20] at H
          have c20b0 : (a0_0 == 0) = true := beq_iff_eq.mpr c20
          have c20b1 : (a0_0 != 0) = false := bne_eq_false_iff_eq.mpr c20
          clear c20
          obtain rfl := Option.some.inj H
          have hcz21_0 : wc.cell? ⟨gb137, 0, none⟩ = some (.int .i64 a0_0) := (blk_cell BK137.out 0).trans rfl
          have hcz21_1 : wc.cell? ⟨gb137, 1, none⟩ = some (.int .i64 a0_1) := (blk_cell BK137.out 1).trans rfl
          have hcz21_2 : wc.cell? ⟨gb137, 2, none⟩ = some (.int .i64 a0_2) := (blk_cell BK137.out 2).trans rfl
          have hfz21_0 := blk_frozen BK137.out 0
          have hfz21_1 := blk_frozen BK137.out 1
          have hfz21_2 := blk_frozen BK137.out 2
          go_wp2
          go_ret
          exact ⟨by first | rfl | (simp [errW_none, errW_some] <;> rfl) | (simp [*, errW_none, errW_some] <;> rfl), by repeat (first | (with_reducible first | exact HB.out | apply below_alloc | apply pw_below_drewN | apply below_drew1 | refine below_set ?_ GE137.out) | exact HB.out)⟩
        · rw [if_neg c20] at H
          have c20b0 : (a0_0 == 0) = false := beq_eq_false_iff_ne.mpr c20
          have c20b1 : (a0_0 != 0) = true := bne_iff_ne.mpr c20
          by_cases c22 : a0_1 = (wrap64 (a0_2 + 1))
          · rw [if_pos c22] at H
            have c22b0 : (a0_1 == (wrap64 (a0_2 + 1))) = true := beq_iff_eq.mpr c22
            have c22b1 : (a0_1 != (wrap64 (a0_2 + 1))) = false := bne_eq_false_iff_eq.mpr c22
            clear c22
            obtain rfl := Option.some.inj H
            have hcz23_0 : wc.cell? ⟨gb137, 0, none⟩ = some (.int .i64 a0_0) := (blk_cell BK137.out 0).trans rfl
            have hcz23_1 : wc.cell? ⟨gb137, 1, none⟩ = some (.int .i64 a0_1) := (blk_cell BK137.out 1).trans rfl
            have hcz23_2 : wc.cell? ⟨gb137, 2, none⟩ = some (.int .i64 a0_2) := (blk_cell BK137.out 2).trans rfl
            have hfz23_0 := blk_frozen BK137.out 0
            have hfz23_1 := blk_frozen BK137.out 1
            have hfz23_2 := blk_frozen BK137.out 2
            go_wp2
            go_ret
            exact ⟨by first | rfl | (simp [errW_none, errW_some] <;> rfl) | (simp [*, errW_none, errW_some] <;> rfl), by repeat (first | (with_reducible first | exact HB.out | apply below_alloc | apply pw_below_drewN | apply below_drew1 | refine below_set ?_ GE137.out) | exact HB.out)⟩
          · rw [if_neg c22] at H
            have c22b0 : (a0_1 == (wrap64 (a0_2 + 1))) = false := beq_eq_false_iff_ne.mpr c22
            have c22b1 : (a0_1 != (wrap64 (a0_2 + 1))) = true := bne_iff_ne.mpr c22
            obtain rfl := Option.some.inj H
            have hcz24_0 : wc.cell? ⟨gb137, 0, none⟩ = some (.int .i64 a0_0) := (blk_cell BK137.out 0).trans rfl
            have hcz24_1 : wc.cell? ⟨gb137, 1, none⟩ = some (.int .i64 a0_1) := (blk_cell BK137.out 1).trans rfl
            have hcz24_2 : wc.cell? ⟨gb137, 2, none⟩ = some (.int .i64 a0_2) := (blk_cell BK137.out 2).trans rfl
            have hfz24_0 := blk_frozen BK137.out 0
            have hfz24_1 := blk_frozen BK137.out 1
            have hfz24_2 := blk_frozen BK137.out 2
            go_wp2
            go_ret
            exact ⟨by first | rfl | (simp [errW_none, errW_some] <;> rfl) | (simp [*, errW_none, errW_some] <;> rfl), by repeat (first | (with_reducible first | exact HB.out | apply below_alloc | apply pw_below_drewN | apply below_drew1 | refine below_set ?_ GE137.out) | exact HB.out)⟩

end Go.Proofs.YtponmfnegdlppaaDoor.P

end
section
/- The document's good, in plain numbers. -/
namespace Go.Proofs.YtponmfnegdlppaaDoor.P
open Go.RowKit Go.Proofs.YtponmfnegdlppaaDoorW.PrintWords Go.Proofs.YtponmfnegdlppaaDoorW.PrintLast Go.Proofs.YtponmfnegdlppaaDoorW.PrintMore
set_option linter.unusedVariables false
set_option linter.unusedSimpArgs false

theorem refGood (k : Nat) (t : Int) (held : Bool) (s : S38) (ht : t ≤ 16) (hk : 0 < k) : winnowref19_good.f k s.f0 s.f1 s.f2 t held = some (goodP t held s) := by
  obtain ⟨k, rfl⟩ : ∃ m, k = m + 1 := ⟨k - 1, by omega⟩
  unfold winnowref19_good.f
  have e : ∀ b, goodP t held s = b ↔ (!(decide (s.f0 < 0)) && (!(decide (4 ≤ s.f0)) && ((held || !(decide (s.f0 = 2))) && (!(decide (s.f2 < 0)) && (!(decide (t < s.f2)) && (decide (s.f1 = s.f2 + (if s.f0 = 0 then 0 else 1)) && (!(decide (s.f2 = t)) || decide (s.f0 = 0)))))))) = b := fun b => Iff.rfl
  by_cases a1 : s.f0 < 0
  · rw [if_pos a1, winnowref19_good.j0, if_pos rfl, (e false).2 (by simp [a1])]
  rw [if_neg a1]
  by_cases a2 : s.f0 > 3
  · rw [if_pos a2, winnowref19_good.j0, if_pos rfl, (e false).2 (by simp; omega)]
  rw [if_neg a2]
  have fin : (held = true ∨ s.f0 ≠ 2) → (if s.f2 < 0 then winnowref19_good.j0 (k + 1) t true s.f0 s.f1 s.f2 else winnowref19_good.j0 (k + 1) t (decide (s.f2 > t)) s.f0 s.f1 s.f2) = some (goodP t held s) := by
    intro hh
    by_cases a4 : s.f2 < 0
    · rw [if_pos a4, winnowref19_good.j0, if_pos rfl, (e false).2 (by simp [a4])]
    rw [if_neg a4, winnowref19_good.j0]
    by_cases a5 : s.f2 > t
    · rw [if_pos (decide_eq_true a5), (e false).2 (by simp; omega)]
    rw [if_neg (by simp; omega)]
    have hw : wrap64 (s.f2 + 1) = s.f2 + 1 := by unfold wrap64; omega
    have h2 : (held || !(decide (s.f0 = 2))) = true := by rcases hh with hh | hh <;> simp [hh]
    have g : goodP t held s = (decide (s.f1 = s.f2 + (if s.f0 = 0 then 0 else 1)) && (!(decide (s.f2 = t)) || decide (s.f0 = 0))) := by
      rw [e, h2]
      have x1 : decide (s.f0 < 0) = false := decide_eq_false a1
      have x2 : decide (4 ≤ s.f0) = false := decide_eq_false (by omega)
      have x3 : decide (s.f2 < 0) = false := decide_eq_false a4
      have x4 : decide (t < s.f2) = false := decide_eq_false (by omega)
      rw [x1, x2, x3, x4]
      rfl
    rw [g, hw]
    by_cases a6 : s.f0 = 0
    · rw [if_pos a6, if_pos a6, Int.add_zero]
      simp [a6]
      rfl
    · rw [if_neg a6, if_neg a6]
      by_cases a7 : s.f1 = s.f2 + 1
      · rw [if_pos a7]
        simp [a7, a6]
        by_cases a8 : s.f2 < t <;> simp [a8] <;> omega
      · rw [if_neg a7]
        simp [a7]
  by_cases a3 : s.f0 = 2
  · rw [if_pos a3]
    by_cases h : held = true
    · rw [if_pos h]; exact fin (.inl h)
    · rw [if_neg h, winnowref19_good.j0, if_pos rfl, (e false).2 (by simp [a3, h])]
  · rw [if_neg a3]; exact fin (.inr a3)
end Go.Proofs.YtponmfnegdlppaaDoor.P

end
section
/- The document's Check, by hand (printed by HRefCheck.gen.py). -/
namespace Go.Proofs.YtponmfnegdlppaaDoor.P
open Go.RowKit Go.Proofs.YtponmfnegdlppaaDoorW.PrintWords Go.Proofs.YtponmfnegdlppaaDoorW.PrintLast Go.Proofs.YtponmfnegdlppaaDoorW.PrintMore
set_option linter.unusedVariables false
set_option linter.unusedSimpArgs false

theorem wrap_succC (i : Nat) (h : i ≤ 9000000000000000000) : wrap64 ((i : Int) + 1) = ((i + 1 : Nat) : Int) := by unfold wrap64; omega
theorem good_any (t : Int) (held : Bool) (s : S38) (b : Bool) (hb : goodP t held s = b) (ht : t ≤ 16) (w : World) : Calls Tryd.prog 42 #[.agg #[.int .i64 s.f0, .int .i64 s.f1, .int .i64 s.f2], .int .i64 t, .bool held] w fun e w' => e = .returned (.bool b) ∧ Below w.heap.size w w' :=
  winnowref19_good.calls 1 s.f0 s.f1 s.f2 t held b w (by rw [refGood 1 t held s ht (by omega), hb])
set_option maxHeartbeats 4000000 in
set_option maxRecDepth 100000 in
theorem refCheck_any (t : Int) (fl : Bool) (A0 : Option Addr) (c0 : Nat) (l0 : List S38) (A1 : Option Addr) (c1 : Nat) (l1 : List S38) (w : World) (hC0 : Kd.C k38 w A0 l0.length l0) (hC1 : Kd.C k38 w A1 l1.length l1) :
    Calls Tryd.prog 16 #[.agg #[.int .i64 t, .slice A0 l0.length c0, .slice A1 l1.length c1, .bool fl]] w fun e w' => e = .returned (.int .i64 (checkP t l0 l1 fl)) ∧ Below w.heap.size w w' := by
  have HC0 := Aside0.mk hC0
  have HC1 := Aside0.mk hC1
  obtain ⟨R, hR⟩ : ∃ R, checkP t l0 l1 fl = R := ⟨_, rfl⟩
  rw [hR]
  unfold checkP at hR
  clear hC0 hC1
  have hu22 := Tryd.underlying22
  have hu24 := Tryd.underlying24
  have hu38 := Tryd.underlying38
  have hE0 := (Env.start w).push #[.int .i64 t, .slice A0 l0.length c0, .slice A1 l1.length c1, .bool fl] 24
  obtain ⟨g1, hg0⟩ : ∃ g, g = w.heap.size := ⟨_, rfl⟩
  rw [← hg0] at hE0
  obtain ⟨W0, hW0, hE⟩ : ∃ W0, w.alloc (.cells #[.int .i64 t, .slice A0 l0.length c0, .slice A1 l1.length c1, .bool fl] 24) = W0 ∧ Env w _ _ W0 := ⟨_, rfl, hE0⟩
  have HG0 := Aside0.mk hg0
  have HW0 := Aside0.mk hW0
  have HE := Aside0.mk hE
  clear hE hE0 hW0 hg0
  have HBX := Aside0.mk (fun (W : World) (h : Env w [⟨g1, #[.int .i64 t, .slice A0 l0.length c0, .slice A1 l1.length c1, .bool fl], 24⟩] [] W) => (show W.cell? ⟨g1, 0, none⟩ = some (.int .i64 t) ∧ W.cell? ⟨g1, 1, none⟩ = some (.slice A0 l0.length c0) ∧ W.cell? ⟨g1, 2, none⟩ = some (.slice A1 l1.length c1) ∧ W.cell? ⟨g1, 3, none⟩ = some (.bool fl) from ⟨h.at_ 0 0 rfl rfl, h.at_ 0 1 rfl rfl, h.at_ 0 2 rfl rfl, h.at_ 0 3 rfl rfl⟩))
  go_enter Tryd.func16, Tryd.ntmps16
  go_upto_region 1 with fail
  rw [← HG0.out, HW0.out]
  clear HW0 HG0
  obtain ⟨x0, x1, x2, x3⟩ := HBX.out _ HE.out
  by_cases k0 : t < 1
  · rw [if_pos k0] at hR
    subst hR
    have hd0 : decide (t < 1) = true := decide_eq_true (by omega)
    clear k0
    go_wp2_with fail
    go_ret
    exact ⟨rfl, HE.out.out⟩
  rw [if_neg k0] at hR
  have hd0 : decide (t < 1) = false := decide_eq_false (by omega)
  by_cases k1 : 16 < t
  · rw [if_pos k1] at hR
    subst hR
    have hd1 : decide (16 < t) = true := decide_eq_true (by omega)
    clear k1
    go_wp2_with fail
    go_ret
    exact ⟨rfl, HE.out.out⟩
  rw [if_neg k1] at hR
  have hd1 : decide (16 < t) = false := decide_eq_false (by omega)
  by_cases k2 : 256 < l0.length
  · rw [if_pos k2] at hR
    subst hR
    have hd2 : decide (256 < (l0.length : Int)) = true := decide_eq_true (by omega)
    clear k2
    go_wp2_with fail
    go_ret
    exact ⟨rfl, HE.out.out⟩
  rw [if_neg k2] at hR
  have hd2 : decide (256 < (l0.length : Int)) = false := decide_eq_false (by omega)
  by_cases k3 : l1.length < 1
  · rw [if_pos k3] at hR
    subst hR
    have hd3 : decide ((l1.length : Int) < 1) = true := decide_eq_true (by omega)
    clear k3
    go_wp2_with fail
    go_ret
    exact ⟨rfl, HE.out.out⟩
  rw [if_neg k3] at hR
  have hd3 : decide ((l1.length : Int) < 1) = false := decide_eq_false (by omega)
  by_cases k4 : 65535 < l1.length
  · rw [if_pos k4] at hR
    subst hR
    have hd4 : decide (65535 < (l1.length : Int)) = true := decide_eq_true (by omega)
    clear k4
    go_wp2_with fail
    go_ret
    exact ⟨rfl, HE.out.out⟩
  rw [if_neg k4] at hR
  have hd4 : decide (65535 < (l1.length : Int)) = false := decide_eq_false (by omega)
  have hB1 := Aside0.mk (show 1 ≤ t ∧ t ≤ 16 ∧ l0.length ≤ 256 ∧ 1 ≤ l1.length ∧ l1.length ≤ 65535 by omega)
  clear k0 k1 k2 k3 k4
  have HR := Aside0.mk hR
  clear hR
  go_wp2_with fail
  clear x0 x1 x2 x3 hd0 hd1 hd2 hd3 hd4
  obtain ⟨n0, hn0⟩ : ∃ n : Nat, l0.length = n := ⟨_, rfl⟩
  obtain ⟨n1, hn1⟩ : ∃ n : Nat, l1.length = n := ⟨_, rfl⟩
  rw [hn0, hn1] at HE HBX hB1 ⊢
  have HN0 := Aside0.mk hn0
  have HN1 := Aside0.mk hn1
  clear hn0 hn1
  have hb0 : (n0 : Int) ≤ 256 := by have := hB1.out; omega
  have hb1 : (n1 : Int) ≤ 65535 := by have := hB1.out; omega
  go_loopw [3, 4] (fun v3 v4 wr => ∃ (f : Int) (i : Nat), i ≤ n0 ∧ 0 ≤ f ∧ f ≤ i ∧ v3 = .int .i64 f ∧ v4 = .int .i64 i ∧ Aside0 ((match scanP t false (l0.drop i) f with | none => 190 | some f => scan1 t l1 fl f) = R) ∧ Aside0 (Env w [⟨g1, #[.int .i64 t, .slice A0 n0 c0, .slice A1 n1 c1, .bool fl], 24⟩] [] wr)) (fun _ v4 _ => n0 - (intOf v4).toNat)
  case atStart => exact ⟨0, 0, by omega, by omega, by omega, rfl, rfl, HR, HE⟩
  case round =>
    clear HE HR
    obtain ⟨f, i, hi, hf0, hf1, rfl, rfl, HI, HE⟩ := hrel
    obtain ⟨x0, x1, x2, x3⟩ := HBX.out _ HE.out
    by_cases hlt : i < n0
    · have hd1 : decide ((i : Int) < (n0 : Int)) = true := decide_eq_true (by omega)
      have hd2 : decide (i < n0) = true := decide_eq_true hlt
      obtain ⟨ad, rfl, y0, y1, y2⟩ := at_T38 (HE.out.came HC0.out) (i : Int) (by omega) (by have := HN0.out; omega)
      rw [Int.toNat_natCast] at y0 y1 y2
      have HDR := Aside0.mk (drop38 l0 i (by have := HN0.out; omega))
      obtain ⟨s, hs⟩ : ∃ s, rd_T38 l0 (i : Int) = s := ⟨_, rfl⟩
      rw [hs] at y0 y1 y2 HDR
      have HY := Aside0.mk (fun (W : World) (hB : Below wr.heap.size wr W) => (show W.cell? (ad.add (i * 3)) = some (.int .i64 s.f0) ∧ W.cell? ⟨(ad.add (i * 3)).block, (ad.add (i * 3)).off + 1, none⟩ = some (.int .i64 s.f1) ∧ W.cell? ⟨(ad.add (i * 3)).block, (ad.add (i * 3)).off + 2, none⟩ = some (.int .i64 s.f2) from ⟨cell_kept y0 (Kept.of_below hB (fun _ => False)) (fun h => h), cell_kept y1 (Kept.of_below hB (fun _ => False)) (fun h => h), cell_kept y2 (Kept.of_below hB (fun _ => False)) (fun h => h)⟩))
      clear hs
      have p1 : ((0 : Int) ≤ (i : Int)) = True := eq_true (by omega)
      have p2 : ((i : Int) < (n0 : Int)) = True := eq_true (by omega)
      have p3 : (i < n0) = True := eq_true hlt
      obtain ⟨gb, hgb⟩ : ∃ gb, goodP t false s = gb := ⟨_, rfl⟩
      have HGB := Aside0.mk hgb
      clear hgb
      go_upto_region 7 with fail
      go_region_held3 (fun w' => w'.cell? ⟨g1, 0, none⟩ = some (.int .i64 t) ∧ w'.cell? ⟨g1, 1, none⟩ = some (.slice (some ad) n0 c0) ∧ w'.cell? (ad.add (i * 3)) = some (.int .i64 s.f0) ∧ w'.cell? ⟨(ad.add (i * 3)).block, (ad.add (i * 3)).off + 1, none⟩ = some (.int .i64 s.f1) ∧ w'.cell? ⟨(ad.add (i * 3)).block, (ad.add (i * 3)).off + 2, none⟩ = some (.int .i64 s.f2)) (first | exact ⟨(HBX.out _ HQ.out).1, (HBX.out _ HQ.out).2.1, HY.out _ HQB.out⟩ | go_keep) (((go_at_call 42; (with_reducible refine (good_any t false s gb HGB.out (by have := hB1.out; omega) _).mono ?_); rintro e w2 ⟨rfl, hB⟩; have HQ := Aside0.mk (HE.out.drew.below hB); have HQB := Aside0.mk (below_step (below_drew1 (Below.refl wr.heap.size wr)) hB); clear hB)))
      obtain ⟨z0, z1, z2, z3⟩ := HBX.out _ HQ.out
      obtain ⟨z4, z5, z6⟩ := HY.out _ HQB.out
      clear x0 x1 x2 x3 y0 y1 y2
      cases gb
      · have h9 := HI.out
        rw [HDR.out] at h9
        simp only [scanP] at h9
        rw [if_neg (by rw [HGB.out]; decide)] at h9
        have h190 : R = 190 := h9.symm
        clear h9
        subst h190
        clear HI HE HBX HY
        go_wp2_with fail
        go_ret
        exact ⟨rfl, HQ.out.out⟩
      · obtain ⟨b9, hb9⟩ : ∃ b : Bool, (s.f2 == t) = b := ⟨_, rfl⟩
        have hbw : IntKind.i64.wrap (f + 1) = f + 1 := by rw [IntKind.wrap_i64]; omega
        have h9 := HI.out
        rw [HDR.out] at h9
        simp only [scanP] at h9
        rw [if_pos HGB.out] at h9
        cases b9
        · rw [if_neg (beq_eq_false_iff_ne.1 hb9)] at h9
          have H9 := Aside0.mk h9
          clear h9 HE HI
          go_upto_region 9 with fail
          go_region_held3 (fun w' => w'.cell? ⟨g1, 0, none⟩ = some (.int .i64 t) ∧ w'.cell? ⟨g1, 1, none⟩ = some (.slice (some ad) n0 c0) ∧ w'.cell? ⟨(ad.add (i * 3)).block, (ad.add (i * 3)).off + 2, none⟩ = some (.int .i64 s.f2)) (go_keep) (fail)
          go_wp2_with fail
          go_roundw
          case rel => exact ⟨f, i + 1, by omega, by omega, by omega, by first | rfl | go_num, by go_num, H9, ⟨by first | exact HQ.out | exact HQ.out.drew⟩⟩
          case measure => simp [intOf]; omega
        · rw [if_pos (beq_iff_eq.1 hb9)] at h9
          have H9 := Aside0.mk h9
          clear h9 HE HI
          go_upto_region 9 with fail
          go_region_held3 (fun w' => w'.cell? ⟨g1, 0, none⟩ = some (.int .i64 t) ∧ w'.cell? ⟨g1, 1, none⟩ = some (.slice (some ad) n0 c0) ∧ w'.cell? ⟨(ad.add (i * 3)).block, (ad.add (i * 3)).off + 2, none⟩ = some (.int .i64 s.f2)) (go_keep) (fail)
          go_wp2_with fail
          go_roundw
          case rel => exact ⟨f + 1, i + 1, by omega, by omega, by omega, by first | rfl | go_num, by go_num, H9, ⟨by first | exact HQ.out | exact HQ.out.drew⟩⟩
          case measure => simp [intOf]; omega
    · obtain rfl : n0 = i := by omega
      have hd1 : decide ((n0 : Int) < (n0 : Int)) = false := decide_eq_false (by omega)
      have hd2 : decide (n0 < n0) = false := decide_eq_false (by omega)
      have HI1 := Aside0.mk (show scan1 t (l1.drop 0) fl f = R by have h9 := HI.out; rw [List.drop_eq_nil_of_le (by have := HN0.out; omega)] at h9; simp only [scanP] at h9; rw [List.drop_zero]; exact h9)
      clear HI
      go_wp2_with fail
      clear x0 x1 x2 x3 hd1 hd2
      go_loopw [3, 5] (fun v3 v4 wr => ∃ (f : Int) (i : Nat), i ≤ n1 ∧ 0 ≤ f ∧ f ≤ 300 + i ∧ v3 = .int .i64 f ∧ v4 = .int .i64 i ∧ Aside0 (scan1 t (l1.drop i) fl f = R) ∧ Aside0 (Env w [⟨g1, #[.int .i64 t, .slice A0 n0 c0, .slice A1 n1 c1, .bool fl], 24⟩] [] wr)) (fun _ v4 _ => n1 - (intOf v4).toNat)
      case atStart => exact ⟨f, 0, by omega, by omega, by omega, rfl, rfl, HI1, HE⟩
      case round =>
        clear HE HI1 hf0 hf1 hi
        obtain ⟨f, i, hi, hf0, hf1, rfl, rfl, HI, HE⟩ := hrel
        obtain ⟨x0, x1, x2, x3⟩ := HBX.out _ HE.out
        by_cases hlt : i < n1
        · have hd1 : decide ((i : Int) < (n1 : Int)) = true := decide_eq_true (by omega)
          have hd2 : decide (i < n1) = true := decide_eq_true hlt
          obtain ⟨ad, rfl, y0, y1, y2⟩ := at_T38 (HE.out.came HC1.out) (i : Int) (by omega) (by have := HN1.out; omega)
          rw [Int.toNat_natCast] at y0 y1 y2
          have HDR := Aside0.mk (drop38 l1 i (by have := HN1.out; omega))
          obtain ⟨s, hs⟩ : ∃ s, rd_T38 l1 (i : Int) = s := ⟨_, rfl⟩
          rw [hs] at y0 y1 y2 HDR
          have HY := Aside0.mk (fun (W : World) (hB : Below wr.heap.size wr W) => (show W.cell? (ad.add (i * 3)) = some (.int .i64 s.f0) ∧ W.cell? ⟨(ad.add (i * 3)).block, (ad.add (i * 3)).off + 1, none⟩ = some (.int .i64 s.f1) ∧ W.cell? ⟨(ad.add (i * 3)).block, (ad.add (i * 3)).off + 2, none⟩ = some (.int .i64 s.f2) from ⟨cell_kept y0 (Kept.of_below hB (fun _ => False)) (fun h => h), cell_kept y1 (Kept.of_below hB (fun _ => False)) (fun h => h), cell_kept y2 (Kept.of_below hB (fun _ => False)) (fun h => h)⟩))
          clear hs
          have p1 : ((0 : Int) ≤ (i : Int)) = True := eq_true (by omega)
          have p2 : ((i : Int) < (n1 : Int)) = True := eq_true (by omega)
          have p3 : (i < n1) = True := eq_true hlt
          obtain ⟨gb, hgb⟩ : ∃ gb, goodP t true s = gb := ⟨_, rfl⟩
          have HGB := Aside0.mk hgb
          clear hgb
          go_upto_region 14 with fail
          go_region_held3 (fun w' => w'.cell? ⟨g1, 0, none⟩ = some (.int .i64 t) ∧ w'.cell? ⟨g1, 2, none⟩ = some (.slice (some ad) n1 c1) ∧ w'.cell? (ad.add (i * 3)) = some (.int .i64 s.f0) ∧ w'.cell? ⟨(ad.add (i * 3)).block, (ad.add (i * 3)).off + 1, none⟩ = some (.int .i64 s.f1) ∧ w'.cell? ⟨(ad.add (i * 3)).block, (ad.add (i * 3)).off + 2, none⟩ = some (.int .i64 s.f2)) (first | exact ⟨(HBX.out _ HQ.out).1, (HBX.out _ HQ.out).2.2.1, HY.out _ HQB.out⟩ | go_keep) (((go_at_call 42; (with_reducible refine (good_any t true s gb HGB.out (by have := hB1.out; omega) _).mono ?_); rintro e w2 ⟨rfl, hB⟩; have HQ := Aside0.mk (HE.out.drew.below hB); have HQB := Aside0.mk (below_step (below_drew1 (Below.refl wr.heap.size wr)) hB); clear hB)))
          obtain ⟨z0, z1, z2, z3⟩ := HBX.out _ HQ.out
          obtain ⟨z4, z5, z6⟩ := HY.out _ HQB.out
          clear x0 x1 x2 x3 y0 y1 y2
          cases gb
          · have h9 := HI.out
            rw [HDR.out] at h9
            simp only [scan1, scanP] at h9
            rw [if_neg (by rw [HGB.out]; decide)] at h9
            have h190 : R = 190 := h9.symm
            clear h9
            subst h190
            clear HI HE HBX HY
            go_wp2_with fail
            go_ret
            exact ⟨rfl, HQ.out.out⟩
          · obtain ⟨b9, hb9⟩ : ∃ b : Bool, (s.f2 == t) = b := ⟨_, rfl⟩
            have hbw : IntKind.i64.wrap (f + 1) = f + 1 := by rw [IntKind.wrap_i64]; omega
            have h9 := HI.out
            rw [HDR.out] at h9
            simp only [scan1, scanP] at h9
            rw [if_pos HGB.out] at h9
            cases b9
            · rw [if_neg (beq_eq_false_iff_ne.1 hb9)] at h9
              have H9 := Aside0.mk h9
              clear h9 HE HI
              go_upto_region 16 with fail
              go_region_held3 (fun w' => w'.cell? ⟨g1, 0, none⟩ = some (.int .i64 t) ∧ w'.cell? ⟨g1, 2, none⟩ = some (.slice (some ad) n1 c1) ∧ w'.cell? ⟨(ad.add (i * 3)).block, (ad.add (i * 3)).off + 2, none⟩ = some (.int .i64 s.f2)) (go_keep) (fail)
              go_wp2_with fail
              go_roundw
              case rel => exact ⟨f, i + 1, by omega, by omega, by omega, by first | rfl | go_num, by go_num, H9, ⟨by first | exact HQ.out | exact HQ.out.drew⟩⟩
              case measure => simp [intOf]; omega
            · rw [if_pos (beq_iff_eq.1 hb9)] at h9
              have H9 := Aside0.mk h9
              clear h9 HE HI
              go_upto_region 16 with fail
              go_region_held3 (fun w' => w'.cell? ⟨g1, 0, none⟩ = some (.int .i64 t) ∧ w'.cell? ⟨g1, 2, none⟩ = some (.slice (some ad) n1 c1) ∧ w'.cell? ⟨(ad.add (i * 3)).block, (ad.add (i * 3)).off + 2, none⟩ = some (.int .i64 s.f2)) (go_keep) (fail)
              go_wp2_with fail
              go_roundw
              case rel => exact ⟨f + 1, i + 1, by omega, by omega, by omega, by first | rfl | go_num, by go_num, H9, ⟨by first | exact HQ.out | exact HQ.out.drew⟩⟩
              case measure => simp [intOf]; omega
        · obtain rfl : n1 = i := by omega
          have hd1 : decide ((n1 : Int) < (n1 : Int)) = false := decide_eq_false (by omega)
          have hd2 : decide (n1 < n1) = false := decide_eq_false (by omega)
          have h9 := HI.out
          rw [List.drop_eq_nil_of_le (by have := HN1.out; omega)] at h9
          simp only [scan1, scanP, finP] at h9
          have H9 := Aside0.mk h9
          clear h9 HI
          by_cases h1 : 1 < f
          · have hd3 : decide (1 < f) = true := decide_eq_true h1
            have h9 := H9.out
            rw [if_pos (.inl h1)] at h9
            subst h9
            clear H9 h1
            go_wp2_with fail
            go_ret
            exact ⟨rfl, HE.out.out⟩
          have hd3 : decide (1 < f) = false := decide_eq_false h1
          obtain ⟨fb, hfb⟩ : ∃ b : Bool, (f == 1) = b := ⟨_, rfl⟩
          have HF1 := Aside0.mk (show decide (f = 1) = fb from hfb)
          have H1 := Aside0.mk h1
          clear h1
          have h9 := H9.out
          rw [HF1.out] at h9
          clear H9 HF1
          cases fl <;> cases fb <;> simp only [H1.out, false_or, ne_eq, not_true_eq_false, if_false, if_true, reduceCtorEq, not_false_eq_true] at h9 <;> subst h9 <;> (go_wp2_with fail; go_ret; exact ⟨rfl, HE.out.out⟩)
def winnowref19_Check.f (a0_0 : Int) (l0_1 : List S38) (l0_2 : List S38) (a0_3 : Bool) : Option Int := some (checkP a0_0 l0_1 l0_2 a0_3)
theorem winnowref19_Check.calls (a0_0 : Int) (A0_1 : Option Addr) (c0_1 : Nat) (l0_1 : List S38) (A0_2 : Option Addr) (c0_2 : Nat) (l0_2 : List S38) (a0_3 : Bool) (r : Int) (w : World) (hr0_1 : Kd.C k38 w A0_1 l0_1.length l0_1) (hc0_1 : l0_1.length ≤ c0_1) (hr0_2 : Kd.C k38 w A0_2 l0_2.length l0_2) (hc0_2 : l0_2.length ≤ c0_2) (h : winnowref19_Check.f a0_0 l0_1 l0_2 a0_3 = some r) :
    Calls Tryd.prog 16 #[.agg #[.int .i64 a0_0, .slice A0_1 l0_1.length c0_1, .slice A0_2 l0_2.length c0_2, .bool a0_3]] w fun e w' => e = .returned (.int .i64 r) ∧ Below w.heap.size w w' := by
  obtain rfl := Option.some.inj h
  exact refCheck_any a0_0 a0_3 A0_1 c0_1 l0_1 A0_2 c0_2 l0_2 w hr0_1 hr0_2
end Go.Proofs.YtponmfnegdlppaaDoor.P

end
section
-- Written by a program of this session (wip/tools/hprint.py, over the kit's printer), not by hand. Lean checks it.
namespace Go.Proofs.YtponmfnegdlppaaDoor.P
open Go.RowKit Go.Proofs.YtponmfnegdlppaaDoorW.PrintWords Go.Proofs.YtponmfnegdlppaaDoorW.PrintLast Go.Proofs.YtponmfnegdlppaaDoorW.PrintMore
attribute [local go_sem] max2_int min2_int max_two min_two max_three min_three max_four min_four
set_option linter.unusedVariables false
set_option linter.unusedSimpArgs false

/-! ### winnowref19_there: function 60 -/
def winnowref19_there.f (a0_0 : Int) (l0_1 : List (S38)) (l0_2 : List (S38)) (a0_3 : Bool) (a1_0 : Int) (a1_1 : Int) : Option (Bool) := if a1_1 ≥ 0 then (if a1_0 = 0 then (if a1_1 < (l0_1.length : Int) then (some true) else (if a1_0 = 1 then (some (decide (a1_1 < (l0_2.length : Int)))) else (some false))) else (if a1_0 = 1 then (some (decide (a1_1 < (l0_2.length : Int)))) else (some false))) else (some false)
set_option maxHeartbeats 8000000 in
set_option maxRecDepth 100000 in
theorem winnowref19_there.calls (a0_0 : Int) (A0_1 : Option Addr) (c0_1 : Nat) (l0_1 : List (S38)) (A0_2 : Option Addr) (c0_2 : Nat) (l0_2 : List (S38)) (a0_3 : Bool) (a1_0 : Int) (a1_1 : Int) (r : Bool) (w : World) (hr0_1 : Kd.C k38 w A0_1 l0_1.length l0_1) (hc0_1 : l0_1.length ≤ c0_1) (hr0_2 : Kd.C k38 w A0_2 l0_2.length l0_2) (hc0_2 : l0_2.length ≤ c0_2) (h : winnowref19_there.f a0_0 l0_1 l0_2 a0_3 a1_0 a1_1 = some r) :
    Calls Tryd.prog 60 #[.agg #[.int .i64 a0_0, .slice A0_1 l0_1.length c0_1, .slice A0_2 l0_2.length c0_2, .bool a0_3], .agg #[.int .i64 a1_0, .int .i64 a1_1]] w fun e w' => e = .returned (.bool r) ∧ Below w.heap.size w w' := by
  have hu24 := Tryd.underlying24
  have hu29 := Tryd.underlying29
  have HR0_1 := Aside0.mk hr0_1
  have HC0_1 := Aside0.mk hc0_1
  clear hr0_1 hc0_1
  have HR0_2 := Aside0.mk hr0_2
  have HC0_2 := Aside0.mk hc0_2
  clear hr0_2 hc0_2
  have HB := Aside0.mk (Below.refl w.heap.size w)
  have H : (if a1_1 ≥ 0 then (if a1_0 = 0 then (if a1_1 < (l0_1.length : Int) then (some true) else (if a1_0 = 1 then (some (decide (a1_1 < (l0_2.length : Int)))) else (some false))) else (if a1_0 = 1 then (some (decide (a1_1 < (l0_2.length : Int)))) else (some false))) else (some false)) = some r := h
  clear h
  by_cases c3 : a1_1 ≥ 0
  · rw [if_pos c3] at H
    have c3b0 : decide (0 ≤ a1_1) = true := decide_eq_true c3
    clear c3
    by_cases c4 : a1_0 = 0
    · rw [if_pos c4] at H
      have c4b0 : (a1_0 == 0) = true := beq_iff_eq.mpr c4
      have c4b1 : (a1_0 != 0) = false := bne_eq_false_iff_eq.mpr c4
      clear c4
      by_cases c5 : a1_1 < (l0_1.length : Int)
      · rw [if_pos c5] at H
        have c5b0 : decide (a1_1 < (l0_1.length : Int)) = true := decide_eq_true c5
        clear c5
        obtain rfl := Option.some.inj H
        go_enter Tryd.func60, Tryd.ntmps60
        go_wp2_with (first | ((with_reducible refine gate_dst (N := 2) rfl ?_); (try (refine gate_guard (by rfl) ?_; dsimp only)); refine box_event ?hg (N := 2) ?hd (cs := #[.int .i64 a0_0, .slice A0_1 l0_1.length c0_1, .slice A0_2 l0_2.length c0_2, .bool a0_3]) (t := 24) ?hr ?_; (case hd => rfl); (case hg => rfl); (case hr => first | (go_simp; done) | (go_simp; rfl)); intro gb279 hg w6 hbox hb; have n0_ := Aside0.mk (below_step (by repeat (first | (with_reducible first | exact HB.out | apply below_alloc | apply pw_below_drewN | apply below_drew1) | exact HB.out)) hb); have n1_ := Aside0.mk (hbox); have n2_ := Aside0.mk ((by rw [hg]; exact (below_size (by repeat (first | (with_reducible first | exact HB.out | apply below_alloc | apply pw_below_drewN | apply below_drew1) | exact HB.out))) : w.heap.size ≤ gb279)); have n3_ := Aside0.mk ((by rw [hg]; exact (below_size (by repeat (first | (with_reducible first | exact HB.out | apply below_alloc | apply pw_below_drewN | apply below_drew1) | exact HB.out))) : w.heap.size ≤ gb279)); clear HB; have HB := n0_; have BK279 := n1_; have GW279 := n2_; have GE279 := n3_; clear n0_ n1_ n2_ n3_; clear hb hbox hg) | ((with_reducible refine gate_dst (N := 3) rfl ?_); (try (refine gate_guard (by rfl) ?_; dsimp only)); refine box_event ?hg (N := 3) ?hd (cs := #[.int .i64 a1_0, .int .i64 a1_1]) (t := 29) ?hr ?_; (case hd => rfl); (case hg => rfl); (case hr => first | (go_simp; done) | (go_simp; rfl)); intro gb280 hg w7 hbox hb; have n0_ := Aside0.mk (blk_below (g := gb279) (o := .cells #[.int .i64 a0_0, .slice A0_1 l0_1.length c0_1, .slice A0_2 l0_2.length c0_2, .bool a0_3] 24 (0, 0)) (by (with_reducible repeat (first | refine blk_drewN ?_ _ | refine blk_drew ?_ | refine blk_alloc ?_ _)); exact BK279.out) hb); have n1_ := Aside0.mk (below_step (by repeat (first | (with_reducible first | exact HB.out | apply below_alloc | apply pw_below_drewN | apply below_drew1 | refine below_set ?_ GE279.out) | exact HB.out)) hb); have n2_ := Aside0.mk (hbox); have n3_ := Aside0.mk ((by rw [hg]; exact (below_size (by repeat (first | (with_reducible first | exact HB.out | apply below_alloc | apply pw_below_drewN | apply below_drew1 | refine below_set ?_ GE279.out) | exact HB.out))) : w.heap.size ≤ gb280)); have n4_ := Aside0.mk ((by rw [hg]; exact (below_size (by repeat (first | (with_reducible first | exact HB.out | apply below_alloc | apply pw_below_drewN | apply below_drew1 | refine below_set ?_ GE279.out) | exact HB.out))) : w.heap.size ≤ gb280)); have n5_ := Aside0.mk ((by rw [hg]; exact Nat.ne_of_lt (blk_lt (g := gb279) (o := .cells #[.int .i64 a0_0, .slice A0_1 l0_1.length c0_1, .slice A0_2 l0_2.length c0_2, .bool a0_3] 24 (0, 0)) (by (with_reducible repeat (first | refine blk_drewN ?_ _ | refine blk_drew ?_ | refine blk_alloc ?_ _)); exact BK279.out)) : gb279 ≠ gb280)); have n6_ := Aside0.mk ((by rw [hg]; exact Nat.ne_of_gt (blk_lt (g := gb279) (o := .cells #[.int .i64 a0_0, .slice A0_1 l0_1.length c0_1, .slice A0_2 l0_2.length c0_2, .bool a0_3] 24 (0, 0)) (by (with_reducible repeat (first | refine blk_drewN ?_ _ | refine blk_drew ?_ | refine blk_alloc ?_ _)); exact BK279.out)) : gb280 ≠ gb279)); clear BK279; clear HB; have BK279 := n0_; have HB := n1_; have BK280 := n2_; have GW280 := n3_; have GE280 := n4_; have NB279_280 := n5_; have NB280_279 := n6_; clear n0_ n1_ n2_ n3_ n4_ n5_ n6_; clear hb hbox hg; have hnb8 := NB280_279.out; have hnc8 := NB279_280.out; have hcz9_0 : w7.cell? ⟨gb280, 0, none⟩ = some (.int .i64 a1_0) := (blk_cell BK280.out 0).trans rfl; have hcz9_1 : w7.cell? ⟨gb280, 1, none⟩ = some (.int .i64 a1_1) := (blk_cell BK280.out 1).trans rfl; have hfz9_0 := blk_frozen BK280.out 0; have hfz9_1 := blk_frozen BK280.out 1; have hcz10_0 : w7.cell? ⟨gb279, 0, none⟩ = some (.int .i64 a0_0) := (blk_cell BK279.out 0).trans rfl; have hcz10_1 : w7.cell? ⟨gb279, 1, none⟩ = some (.slice A0_1 l0_1.length c0_1) := (blk_cell BK279.out 1).trans rfl; have hcz10_2 : w7.cell? ⟨gb279, 2, none⟩ = some (.slice A0_2 l0_2.length c0_2) := (blk_cell BK279.out 2).trans rfl; have hcz10_3 : w7.cell? ⟨gb279, 3, none⟩ = some (.bool a0_3) := (blk_cell BK279.out 3).trans rfl; have hfz10_0 := blk_frozen BK279.out 0; have hfz10_1 := blk_frozen BK279.out 1; have hfz10_2 := blk_frozen BK279.out 2; have hfz10_3 := blk_frozen BK279.out 3))
        go_ret
        exact ⟨by first | rfl | (simp [errW_none, errW_some] <;> rfl) | (simp [*, errW_none, errW_some] <;> rfl), by repeat (first | (with_reducible first | exact HB.out | apply below_alloc | apply pw_below_drewN | apply below_drew1 | refine below_set ?_ GE279.out | refine below_set ?_ GE280.out) | exact HB.out)⟩
      · rw [if_neg c5] at H
        have c5b0 : decide (a1_1 < (l0_1.length : Int)) = false := decide_eq_false c5
        clear c5
        by_cases c11 : a1_0 = 1
        · rw [if_pos c11] at H
          have c11b0 : (a1_0 == 1) = true := beq_iff_eq.mpr c11
          have c11b1 : (a1_0 != 1) = false := bne_eq_false_iff_eq.mpr c11
          clear c11
          obtain rfl := Option.some.inj H
          go_enter Tryd.func60, Tryd.ntmps60
          go_wp2_with (first | ((with_reducible refine gate_dst (N := 2) rfl ?_); (try (refine gate_guard (by rfl) ?_; dsimp only)); refine box_event ?hg (N := 2) ?hd (cs := #[.int .i64 a0_0, .slice A0_1 l0_1.length c0_1, .slice A0_2 l0_2.length c0_2, .bool a0_3]) (t := 24) ?hr ?_; (case hd => rfl); (case hg => rfl); (case hr => first | (go_simp; done) | (go_simp; rfl)); intro gb279 hg w12 hbox hb; have n0_ := Aside0.mk (below_step (by repeat (first | (with_reducible first | exact HB.out | apply below_alloc | apply pw_below_drewN | apply below_drew1) | exact HB.out)) hb); have n1_ := Aside0.mk (hbox); have n2_ := Aside0.mk ((by rw [hg]; exact (below_size (by repeat (first | (with_reducible first | exact HB.out | apply below_alloc | apply pw_below_drewN | apply below_drew1) | exact HB.out))) : w.heap.size ≤ gb279)); have n3_ := Aside0.mk ((by rw [hg]; exact (below_size (by repeat (first | (with_reducible first | exact HB.out | apply below_alloc | apply pw_below_drewN | apply below_drew1) | exact HB.out))) : w.heap.size ≤ gb279)); clear HB; have HB := n0_; have BK279 := n1_; have GW279 := n2_; have GE279 := n3_; clear n0_ n1_ n2_ n3_; clear hb hbox hg) | ((with_reducible refine gate_dst (N := 3) rfl ?_); (try (refine gate_guard (by rfl) ?_; dsimp only)); refine box_event ?hg (N := 3) ?hd (cs := #[.int .i64 a1_0, .int .i64 a1_1]) (t := 29) ?hr ?_; (case hd => rfl); (case hg => rfl); (case hr => first | (go_simp; done) | (go_simp; rfl)); intro gb280 hg w13 hbox hb; have n0_ := Aside0.mk (blk_below (g := gb279) (o := .cells #[.int .i64 a0_0, .slice A0_1 l0_1.length c0_1, .slice A0_2 l0_2.length c0_2, .bool a0_3] 24 (0, 0)) (by (with_reducible repeat (first | refine blk_drewN ?_ _ | refine blk_drew ?_ | refine blk_alloc ?_ _)); exact BK279.out) hb); have n1_ := Aside0.mk (below_step (by repeat (first | (with_reducible first | exact HB.out | apply below_alloc | apply pw_below_drewN | apply below_drew1 | refine below_set ?_ GE279.out) | exact HB.out)) hb); have n2_ := Aside0.mk (hbox); have n3_ := Aside0.mk ((by rw [hg]; exact (below_size (by repeat (first | (with_reducible first | exact HB.out | apply below_alloc | apply pw_below_drewN | apply below_drew1 | refine below_set ?_ GE279.out) | exact HB.out))) : w.heap.size ≤ gb280)); have n4_ := Aside0.mk ((by rw [hg]; exact (below_size (by repeat (first | (with_reducible first | exact HB.out | apply below_alloc | apply pw_below_drewN | apply below_drew1 | refine below_set ?_ GE279.out) | exact HB.out))) : w.heap.size ≤ gb280)); have n5_ := Aside0.mk ((by rw [hg]; exact Nat.ne_of_lt (blk_lt (g := gb279) (o := .cells #[.int .i64 a0_0, .slice A0_1 l0_1.length c0_1, .slice A0_2 l0_2.length c0_2, .bool a0_3] 24 (0, 0)) (by (with_reducible repeat (first | refine blk_drewN ?_ _ | refine blk_drew ?_ | refine blk_alloc ?_ _)); exact BK279.out)) : gb279 ≠ gb280)); have n6_ := Aside0.mk ((by rw [hg]; exact Nat.ne_of_gt (blk_lt (g := gb279) (o := .cells #[.int .i64 a0_0, .slice A0_1 l0_1.length c0_1, .slice A0_2 l0_2.length c0_2, .bool a0_3] 24 (0, 0)) (by (with_reducible repeat (first | refine blk_drewN ?_ _ | refine blk_drew ?_ | refine blk_alloc ?_ _)); exact BK279.out)) : gb280 ≠ gb279)); clear BK279; clear HB; have BK279 := n0_; have HB := n1_; have BK280 := n2_; have GW280 := n3_; have GE280 := n4_; have NB279_280 := n5_; have NB280_279 := n6_; clear n0_ n1_ n2_ n3_ n4_ n5_ n6_; clear hb hbox hg; have hnb14 := NB280_279.out; have hnc14 := NB279_280.out; have hcz15_0 : w13.cell? ⟨gb280, 0, none⟩ = some (.int .i64 a1_0) := (blk_cell BK280.out 0).trans rfl; have hcz15_1 : w13.cell? ⟨gb280, 1, none⟩ = some (.int .i64 a1_1) := (blk_cell BK280.out 1).trans rfl; have hfz15_0 := blk_frozen BK280.out 0; have hfz15_1 := blk_frozen BK280.out 1; have hcz16_0 : w13.cell? ⟨gb279, 0, none⟩ = some (.int .i64 a0_0) := (blk_cell BK279.out 0).trans rfl; have hcz16_1 : w13.cell? ⟨gb279, 1, none⟩ = some (.slice A0_1 l0_1.length c0_1) := (blk_cell BK279.out 1).trans rfl; have hcz16_2 : w13.cell? ⟨gb279, 2, none⟩ = some (.slice A0_2 l0_2.length c0_2) := (blk_cell BK279.out 2).trans rfl; have hcz16_3 : w13.cell? ⟨gb279, 3, none⟩ = some (.bool a0_3) := (blk_cell BK279.out 3).trans rfl; have hfz16_0 := blk_frozen BK279.out 0; have hfz16_1 := blk_frozen BK279.out 1; have hfz16_2 := blk_frozen BK279.out 2; have hfz16_3 := blk_frozen BK279.out 3))
          go_ret
          exact ⟨by first | rfl | (simp [errW_none, errW_some] <;> rfl) | (simp [*, errW_none, errW_some] <;> rfl), by repeat (first | (with_reducible first | exact HB.out | apply below_alloc | apply pw_below_drewN | apply below_drew1 | refine below_set ?_ GE279.out | refine below_set ?_ GE280.out) | exact HB.out)⟩
        · rw [if_neg c11] at H
          have c11b0 : (a1_0 == 1) = false := beq_eq_false_iff_ne.mpr c11
          have c11b1 : (a1_0 != 1) = true := bne_iff_ne.mpr c11
          obtain rfl := Option.some.inj H
          go_enter Tryd.func60, Tryd.ntmps60
          go_wp2_with (first | ((with_reducible refine gate_dst (N := 2) rfl ?_); (try (refine gate_guard (by rfl) ?_; dsimp only)); refine box_event ?hg (N := 2) ?hd (cs := #[.int .i64 a0_0, .slice A0_1 l0_1.length c0_1, .slice A0_2 l0_2.length c0_2, .bool a0_3]) (t := 24) ?hr ?_; (case hd => rfl); (case hg => rfl); (case hr => first | (go_simp; done) | (go_simp; rfl)); intro gb279 hg w17 hbox hb; have n0_ := Aside0.mk (below_step (by repeat (first | (with_reducible first | exact HB.out | apply below_alloc | apply pw_below_drewN | apply below_drew1) | exact HB.out)) hb); have n1_ := Aside0.mk (hbox); have n2_ := Aside0.mk ((by rw [hg]; exact (below_size (by repeat (first | (with_reducible first | exact HB.out | apply below_alloc | apply pw_below_drewN | apply below_drew1) | exact HB.out))) : w.heap.size ≤ gb279)); have n3_ := Aside0.mk ((by rw [hg]; exact (below_size (by repeat (first | (with_reducible first | exact HB.out | apply below_alloc | apply pw_below_drewN | apply below_drew1) | exact HB.out))) : w.heap.size ≤ gb279)); clear HB; have HB := n0_; have BK279 := n1_; have GW279 := n2_; have GE279 := n3_; clear n0_ n1_ n2_ n3_; clear hb hbox hg) | ((with_reducible refine gate_dst (N := 3) rfl ?_); (try (refine gate_guard (by rfl) ?_; dsimp only)); refine box_event ?hg (N := 3) ?hd (cs := #[.int .i64 a1_0, .int .i64 a1_1]) (t := 29) ?hr ?_; (case hd => rfl); (case hg => rfl); (case hr => first | (go_simp; done) | (go_simp; rfl)); intro gb280 hg w18 hbox hb; have n0_ := Aside0.mk (blk_below (g := gb279) (o := .cells #[.int .i64 a0_0, .slice A0_1 l0_1.length c0_1, .slice A0_2 l0_2.length c0_2, .bool a0_3] 24 (0, 0)) (by (with_reducible repeat (first | refine blk_drewN ?_ _ | refine blk_drew ?_ | refine blk_alloc ?_ _)); exact BK279.out) hb); have n1_ := Aside0.mk (below_step (by repeat (first | (with_reducible first | exact HB.out | apply below_alloc | apply pw_below_drewN | apply below_drew1 | refine below_set ?_ GE279.out) | exact HB.out)) hb); have n2_ := Aside0.mk (hbox); have n3_ := Aside0.mk ((by rw [hg]; exact (below_size (by repeat (first | (with_reducible first | exact HB.out | apply below_alloc | apply pw_below_drewN | apply below_drew1 | refine below_set ?_ GE279.out) | exact HB.out))) : w.heap.size ≤ gb280)); have n4_ := Aside0.mk ((by rw [hg]; exact (below_size (by repeat (first | (with_reducible first | exact HB.out | apply below_alloc | apply pw_below_drewN | apply below_drew1 | refine below_set ?_ GE279.out) | exact HB.out))) : w.heap.size ≤ gb280)); have n5_ := Aside0.mk ((by rw [hg]; exact Nat.ne_of_lt (blk_lt (g := gb279) (o := .cells #[.int .i64 a0_0, .slice A0_1 l0_1.length c0_1, .slice A0_2 l0_2.length c0_2, .bool a0_3] 24 (0, 0)) (by (with_reducible repeat (first | refine blk_drewN ?_ _ | refine blk_drew ?_ | refine blk_alloc ?_ _)); exact BK279.out)) : gb279 ≠ gb280)); have n6_ := Aside0.mk ((by rw [hg]; exact Nat.ne_of_gt (blk_lt (g := gb279) (o := .cells #[.int .i64 a0_0, .slice A0_1 l0_1.length c0_1, .slice A0_2 l0_2.length c0_2, .bool a0_3] 24 (0, 0)) (by (with_reducible repeat (first | refine blk_drewN ?_ _ | refine blk_drew ?_ | refine blk_alloc ?_ _)); exact BK279.out)) : gb280 ≠ gb279)); clear BK279; clear HB; have BK279 := n0_; have HB := n1_; have BK280 := n2_; have GW280 := n3_; have GE280 := n4_; have NB279_280 := n5_; have NB280_279 := n6_; clear n0_ n1_ n2_ n3_ n4_ n5_ n6_; clear hb hbox hg; have hnb19 := NB280_279.out; have hnc19 := NB279_280.out; have hcz20_0 : w18.cell? ⟨gb280, 0, none⟩ = some (.int .i64 a1_0) := (blk_cell BK280.out 0).trans rfl; have hcz20_1 : w18.cell? ⟨gb280, 1, none⟩ = some (.int .i64 a1_1) := (blk_cell BK280.out 1).trans rfl; have hfz20_0 := blk_frozen BK280.out 0; have hfz20_1 := blk_frozen BK280.out 1; have hcz21_0 : w18.cell? ⟨gb279, 0, none⟩ = some (.int .i64 a0_0) := (blk_cell BK279.out 0).trans rfl; have hcz21_1 : w18.cell? ⟨gb279, 1, none⟩ = some (.slice A0_1 l0_1.length c0_1) := (blk_cell BK279.out 1).trans rfl; have hcz21_2 : w18.cell? ⟨gb279, 2, none⟩ = some (.slice A0_2 l0_2.length c0_2) := (blk_cell BK279.out 2).trans rfl; have hcz21_3 : w18.cell? ⟨gb279, 3, none⟩ = some (.bool a0_3) := (blk_cell BK279.out 3).trans rfl; have hfz21_0 := blk_frozen BK279.out 0; have hfz21_1 := blk_frozen BK279.out 1; have hfz21_2 := blk_frozen BK279.out 2; have hfz21_3 := blk_frozen BK279.out 3))
          go_ret
          exact ⟨by first | rfl | (simp [errW_none, errW_some] <;> rfl) | (simp [*, errW_none, errW_some] <;> rfl), by repeat (first | (with_reducible first | exact HB.out | apply below_alloc | apply pw_below_drewN | apply below_drew1 | refine below_set ?_ GE279.out | refine below_set ?_ GE280.out) | exact HB.out)⟩
    · rw [if_neg c4] at H
      have c4b0 : (a1_0 == 0) = false := beq_eq_false_iff_ne.mpr c4
      have c4b1 : (a1_0 != 0) = true := bne_iff_ne.mpr c4
      by_cases c22 : a1_0 = 1
      · rw [if_pos c22] at H
        have c22b0 : (a1_0 == 1) = true := beq_iff_eq.mpr c22
        have c22b1 : (a1_0 != 1) = false := bne_eq_false_iff_eq.mpr c22
        clear c22
        obtain rfl := Option.some.inj H
        go_enter Tryd.func60, Tryd.ntmps60
        go_wp2_with (first | ((with_reducible refine gate_dst (N := 2) rfl ?_); (try (refine gate_guard (by rfl) ?_; dsimp only)); refine box_event ?hg (N := 2) ?hd (cs := #[.int .i64 a0_0, .slice A0_1 l0_1.length c0_1, .slice A0_2 l0_2.length c0_2, .bool a0_3]) (t := 24) ?hr ?_; (case hd => rfl); (case hg => rfl); (case hr => first | (go_simp; done) | (go_simp; rfl)); intro gb279 hg w23 hbox hb; have n0_ := Aside0.mk (below_step (by repeat (first | (with_reducible first | exact HB.out | apply below_alloc | apply pw_below_drewN | apply below_drew1) | exact HB.out)) hb); have n1_ := Aside0.mk (hbox); have n2_ := Aside0.mk ((by rw [hg]; exact (below_size (by repeat (first | (with_reducible first | exact HB.out | apply below_alloc | apply pw_below_drewN | apply below_drew1) | exact HB.out))) : w.heap.size ≤ gb279)); have n3_ := Aside0.mk ((by rw [hg]; exact (below_size (by repeat (first | (with_reducible first | exact HB.out | apply below_alloc | apply pw_below_drewN | apply below_drew1) | exact HB.out))) : w.heap.size ≤ gb279)); clear HB; have HB := n0_; have BK279 := n1_; have GW279 := n2_; have GE279 := n3_; clear n0_ n1_ n2_ n3_; clear hb hbox hg) | ((with_reducible refine gate_dst (N := 3) rfl ?_); (try (refine gate_guard (by rfl) ?_; dsimp only)); refine box_event ?hg (N := 3) ?hd (cs := #[.int .i64 a1_0, .int .i64 a1_1]) (t := 29) ?hr ?_; (case hd => rfl); (case hg => rfl); (case hr => first | (go_simp; done) | (go_simp; rfl)); intro gb280 hg w24 hbox hb; have n0_ := Aside0.mk (blk_below (g := gb279) (o := .cells #[.int .i64 a0_0, .slice A0_1 l0_1.length c0_1, .slice A0_2 l0_2.length c0_2, .bool a0_3] 24 (0, 0)) (by (with_reducible repeat (first | refine blk_drewN ?_ _ | refine blk_drew ?_ | refine blk_alloc ?_ _)); exact BK279.out) hb); have n1_ := Aside0.mk (below_step (by repeat (first | (with_reducible first | exact HB.out | apply below_alloc | apply pw_below_drewN | apply below_drew1 | refine below_set ?_ GE279.out) | exact HB.out)) hb); have n2_ := Aside0.mk (hbox); have n3_ := Aside0.mk ((by rw [hg]; exact (below_size (by repeat (first | (with_reducible first | exact HB.out | apply below_alloc | apply pw_below_drewN | apply below_drew1 | refine below_set ?_ GE279.out) | exact HB.out))) : w.heap.size ≤ gb280)); have n4_ := Aside0.mk ((by rw [hg]; exact (below_size (by repeat (first | (with_reducible first | exact HB.out | apply below_alloc | apply pw_below_drewN | apply below_drew1 | refine below_set ?_ GE279.out) | exact HB.out))) : w.heap.size ≤ gb280)); have n5_ := Aside0.mk ((by rw [hg]; exact Nat.ne_of_lt (blk_lt (g := gb279) (o := .cells #[.int .i64 a0_0, .slice A0_1 l0_1.length c0_1, .slice A0_2 l0_2.length c0_2, .bool a0_3] 24 (0, 0)) (by (with_reducible repeat (first | refine blk_drewN ?_ _ | refine blk_drew ?_ | refine blk_alloc ?_ _)); exact BK279.out)) : gb279 ≠ gb280)); have n6_ := Aside0.mk ((by rw [hg]; exact Nat.ne_of_gt (blk_lt (g := gb279) (o := .cells #[.int .i64 a0_0, .slice A0_1 l0_1.length c0_1, .slice A0_2 l0_2.length c0_2, .bool a0_3] 24 (0, 0)) (by (with_reducible repeat (first | refine blk_drewN ?_ _ | refine blk_drew ?_ | refine blk_alloc ?_ _)); exact BK279.out)) : gb280 ≠ gb279)); clear BK279; clear HB; have BK279 := n0_; have HB := n1_; have BK280 := n2_; have GW280 := n3_; have GE280 := n4_; have NB279_280 := n5_; have NB280_279 := n6_; clear n0_ n1_ n2_ n3_ n4_ n5_ n6_; clear hb hbox hg; have hnb25 := NB280_279.out; have hnc25 := NB279_280.out; have hcz26_0 : w24.cell? ⟨gb280, 0, none⟩ = some (.int .i64 a1_0) := (blk_cell BK280.out 0).trans rfl; have hcz26_1 : w24.cell? ⟨gb280, 1, none⟩ = some (.int .i64 a1_1) := (blk_cell BK280.out 1).trans rfl; have hfz26_0 := blk_frozen BK280.out 0; have hfz26_1 := blk_frozen BK280.out 1; have hcz27_0 : w24.cell? ⟨gb279, 0, none⟩ = some (.int .i64 a0_0) := (blk_cell BK279.out 0).trans rfl; have hcz27_1 : w24.cell? ⟨gb279, 1, none⟩ = some (.slice A0_1 l0_1.length c0_1) := (blk_cell BK279.out 1).trans rfl; have hcz27_2 : w24.cell? ⟨gb279, 2, none⟩ = some (.slice A0_2 l0_2.length c0_2) := (blk_cell BK279.out 2).trans rfl; have hcz27_3 : w24.cell? ⟨gb279, 3, none⟩ = some (.bool a0_3) := (blk_cell BK279.out 3).trans rfl; have hfz27_0 := blk_frozen BK279.out 0; have hfz27_1 := blk_frozen BK279.out 1; have hfz27_2 := blk_frozen BK279.out 2; have hfz27_3 := blk_frozen BK279.out 3))
        go_ret
        exact ⟨by first | rfl | (simp [errW_none, errW_some] <;> rfl) | (simp [*, errW_none, errW_some] <;> rfl), by repeat (first | (with_reducible first | exact HB.out | apply below_alloc | apply pw_below_drewN | apply below_drew1 | refine below_set ?_ GE279.out | refine below_set ?_ GE280.out) | exact HB.out)⟩
      · rw [if_neg c22] at H
        have c22b0 : (a1_0 == 1) = false := beq_eq_false_iff_ne.mpr c22
        have c22b1 : (a1_0 != 1) = true := bne_iff_ne.mpr c22
        obtain rfl := Option.some.inj H
        go_enter Tryd.func60, Tryd.ntmps60
        go_wp2_with (first | ((with_reducible refine gate_dst (N := 2) rfl ?_); (try (refine gate_guard (by rfl) ?_; dsimp only)); refine box_event ?hg (N := 2) ?hd (cs := #[.int .i64 a0_0, .slice A0_1 l0_1.length c0_1, .slice A0_2 l0_2.length c0_2, .bool a0_3]) (t := 24) ?hr ?_; (case hd => rfl); (case hg => rfl); (case hr => first | (go_simp; done) | (go_simp; rfl)); intro gb279 hg w28 hbox hb; have n0_ := Aside0.mk (below_step (by repeat (first | (with_reducible first | exact HB.out | apply below_alloc | apply pw_below_drewN | apply below_drew1) | exact HB.out)) hb); have n1_ := Aside0.mk (hbox); have n2_ := Aside0.mk ((by rw [hg]; exact (below_size (by repeat (first | (with_reducible first | exact HB.out | apply below_alloc | apply pw_below_drewN | apply below_drew1) | exact HB.out))) : w.heap.size ≤ gb279)); have n3_ := Aside0.mk ((by rw [hg]; exact (below_size (by repeat (first | (with_reducible first | exact HB.out | apply below_alloc | apply pw_below_drewN | apply below_drew1) | exact HB.out))) : w.heap.size ≤ gb279)); clear HB; have HB := n0_; have BK279 := n1_; have GW279 := n2_; have GE279 := n3_; clear n0_ n1_ n2_ n3_; clear hb hbox hg) | ((with_reducible refine gate_dst (N := 3) rfl ?_); (try (refine gate_guard (by rfl) ?_; dsimp only)); refine box_event ?hg (N := 3) ?hd (cs := #[.int .i64 a1_0, .int .i64 a1_1]) (t := 29) ?hr ?_; (case hd => rfl); (case hg => rfl); (case hr => first | (go_simp; done) | (go_simp; rfl)); intro gb280 hg w29 hbox hb; have n0_ := Aside0.mk (blk_below (g := gb279) (o := .cells #[.int .i64 a0_0, .slice A0_1 l0_1.length c0_1, .slice A0_2 l0_2.length c0_2, .bool a0_3] 24 (0, 0)) (by (with_reducible repeat (first | refine blk_drewN ?_ _ | refine blk_drew ?_ | refine blk_alloc ?_ _)); exact BK279.out) hb); have n1_ := Aside0.mk (below_step (by repeat (first | (with_reducible first | exact HB.out | apply below_alloc | apply pw_below_drewN | apply below_drew1 | refine below_set ?_ GE279.out) | exact HB.out)) hb); have n2_ := Aside0.mk (hbox); have n3_ := Aside0.mk ((by rw [hg]; exact (below_size (by repeat (first | (with_reducible first | exact HB.out | apply below_alloc | apply pw_below_drewN | apply below_drew1 | refine below_set ?_ GE279.out) | exact HB.out))) : w.heap.size ≤ gb280)); have n4_ := Aside0.mk ((by rw [hg]; exact (below_size (by repeat (first | (with_reducible first | exact HB.out | apply below_alloc | apply pw_below_drewN | apply below_drew1 | refine below_set ?_ GE279.out) | exact HB.out))) : w.heap.size ≤ gb280)); have n5_ := Aside0.mk ((by rw [hg]; exact Nat.ne_of_lt (blk_lt (g := gb279) (o := .cells #[.int .i64 a0_0, .slice A0_1 l0_1.length c0_1, .slice A0_2 l0_2.length c0_2, .bool a0_3] 24 (0, 0)) (by (with_reducible repeat (first | refine blk_drewN ?_ _ | refine blk_drew ?_ | refine blk_alloc ?_ _)); exact BK279.out)) : gb279 ≠ gb280)); have n6_ := Aside0.mk ((by rw [hg]; exact Nat.ne_of_gt (blk_lt (g := gb279) (o := .cells #[.int .i64 a0_0, .slice A0_1 l0_1.length c0_1, .slice A0_2 l0_2.length c0_2, .bool a0_3] 24 (0, 0)) (by (with_reducible repeat (first | refine blk_drewN ?_ _ | refine blk_drew ?_ | refine blk_alloc ?_ _)); exact BK279.out)) : gb280 ≠ gb279)); clear BK279; clear HB; have BK279 := n0_; have HB := n1_; have BK280 := n2_; have GW280 := n3_; have GE280 := n4_; have NB279_280 := n5_; have NB280_279 := n6_; clear n0_ n1_ n2_ n3_ n4_ n5_ n6_; clear hb hbox hg; have hnb30 := NB280_279.out; have hnc30 := NB279_280.out; have hcz31_0 : w29.cell? ⟨gb280, 0, none⟩ = some (.int .i64 a1_0) := (blk_cell BK280.out 0).trans rfl; have hcz31_1 : w29.cell? ⟨gb280, 1, none⟩ = some (.int .i64 a1_1) := (blk_cell BK280.out 1).trans rfl; have hfz31_0 := blk_frozen BK280.out 0; have hfz31_1 := blk_frozen BK280.out 1))
        go_ret
        exact ⟨by first | rfl | (simp [errW_none, errW_some] <;> rfl) | (simp [*, errW_none, errW_some] <;> rfl), by repeat (first | (with_reducible first | exact HB.out | apply below_alloc | apply pw_below_drewN | apply below_drew1 | refine below_set ?_ GE279.out | refine below_set ?_ GE280.out) | exact HB.out)⟩
  · rw [if_neg c3] at H
    have c3b0 : decide (0 ≤ a1_1) = false := decide_eq_false c3
    clear c3
    obtain rfl := Option.some.inj H
    go_enter Tryd.func60, Tryd.ntmps60
    go_wp2_with (first | ((with_reducible refine gate_dst (N := 2) rfl ?_); (try (refine gate_guard (by rfl) ?_; dsimp only)); refine box_event ?hg (N := 2) ?hd (cs := #[.int .i64 a0_0, .slice A0_1 l0_1.length c0_1, .slice A0_2 l0_2.length c0_2, .bool a0_3]) (t := 24) ?hr ?_; (case hd => rfl); (case hg => rfl); (case hr => first | (go_simp; done) | (go_simp; rfl)); intro gb279 hg w32 hbox hb; have n0_ := Aside0.mk (below_step (by repeat (first | (with_reducible first | exact HB.out | apply below_alloc | apply pw_below_drewN | apply below_drew1) | exact HB.out)) hb); have n1_ := Aside0.mk (hbox); have n2_ := Aside0.mk ((by rw [hg]; exact (below_size (by repeat (first | (with_reducible first | exact HB.out | apply below_alloc | apply pw_below_drewN | apply below_drew1) | exact HB.out))) : w.heap.size ≤ gb279)); have n3_ := Aside0.mk ((by rw [hg]; exact (below_size (by repeat (first | (with_reducible first | exact HB.out | apply below_alloc | apply pw_below_drewN | apply below_drew1) | exact HB.out))) : w.heap.size ≤ gb279)); clear HB; have HB := n0_; have BK279 := n1_; have GW279 := n2_; have GE279 := n3_; clear n0_ n1_ n2_ n3_; clear hb hbox hg) | ((with_reducible refine gate_dst (N := 3) rfl ?_); (try (refine gate_guard (by rfl) ?_; dsimp only)); refine box_event ?hg (N := 3) ?hd (cs := #[.int .i64 a1_0, .int .i64 a1_1]) (t := 29) ?hr ?_; (case hd => rfl); (case hg => rfl); (case hr => first | (go_simp; done) | (go_simp; rfl)); intro gb280 hg w33 hbox hb; have n0_ := Aside0.mk (blk_below (g := gb279) (o := .cells #[.int .i64 a0_0, .slice A0_1 l0_1.length c0_1, .slice A0_2 l0_2.length c0_2, .bool a0_3] 24 (0, 0)) (by (with_reducible repeat (first | refine blk_drewN ?_ _ | refine blk_drew ?_ | refine blk_alloc ?_ _)); exact BK279.out) hb); have n1_ := Aside0.mk (below_step (by repeat (first | (with_reducible first | exact HB.out | apply below_alloc | apply pw_below_drewN | apply below_drew1 | refine below_set ?_ GE279.out) | exact HB.out)) hb); have n2_ := Aside0.mk (hbox); have n3_ := Aside0.mk ((by rw [hg]; exact (below_size (by repeat (first | (with_reducible first | exact HB.out | apply below_alloc | apply pw_below_drewN | apply below_drew1 | refine below_set ?_ GE279.out) | exact HB.out))) : w.heap.size ≤ gb280)); have n4_ := Aside0.mk ((by rw [hg]; exact (below_size (by repeat (first | (with_reducible first | exact HB.out | apply below_alloc | apply pw_below_drewN | apply below_drew1 | refine below_set ?_ GE279.out) | exact HB.out))) : w.heap.size ≤ gb280)); have n5_ := Aside0.mk ((by rw [hg]; exact Nat.ne_of_lt (blk_lt (g := gb279) (o := .cells #[.int .i64 a0_0, .slice A0_1 l0_1.length c0_1, .slice A0_2 l0_2.length c0_2, .bool a0_3] 24 (0, 0)) (by (with_reducible repeat (first | refine blk_drewN ?_ _ | refine blk_drew ?_ | refine blk_alloc ?_ _)); exact BK279.out)) : gb279 ≠ gb280)); have n6_ := Aside0.mk ((by rw [hg]; exact Nat.ne_of_gt (blk_lt (g := gb279) (o := .cells #[.int .i64 a0_0, .slice A0_1 l0_1.length c0_1, .slice A0_2 l0_2.length c0_2, .bool a0_3] 24 (0, 0)) (by (with_reducible repeat (first | refine blk_drewN ?_ _ | refine blk_drew ?_ | refine blk_alloc ?_ _)); exact BK279.out)) : gb280 ≠ gb279)); clear BK279; clear HB; have BK279 := n0_; have HB := n1_; have BK280 := n2_; have GW280 := n3_; have GE280 := n4_; have NB279_280 := n5_; have NB280_279 := n6_; clear n0_ n1_ n2_ n3_ n4_ n5_ n6_; clear hb hbox hg; have hnb34 := NB280_279.out; have hnc34 := NB279_280.out; have hcz35_0 : w33.cell? ⟨gb280, 0, none⟩ = some (.int .i64 a1_0) := (blk_cell BK280.out 0).trans rfl; have hcz35_1 : w33.cell? ⟨gb280, 1, none⟩ = some (.int .i64 a1_1) := (blk_cell BK280.out 1).trans rfl; have hfz35_0 := blk_frozen BK280.out 0; have hfz35_1 := blk_frozen BK280.out 1))
    go_ret
    exact ⟨by first | rfl | (simp [errW_none, errW_some] <;> rfl) | (simp [*, errW_none, errW_some] <;> rfl), by repeat (first | (with_reducible first | exact HB.out | apply below_alloc | apply pw_below_drewN | apply below_drew1 | refine below_set ?_ GE279.out | refine below_set ?_ GE280.out) | exact HB.out)⟩

end Go.Proofs.YtponmfnegdlppaaDoor.P

end
section
/- The document's answers are the program's, in plain lists: Check, there, at, with, charged. -/
namespace Go.Proofs.YtponmfnegdlppaaDoor.P
open Go.RowKit Go.Proofs.YtponmfnegdlppaaDoorW.PrintWords Go.Proofs.YtponmfnegdlppaaDoorW.PrintLast Go.Proofs.YtponmfnegdlppaaDoorW.PrintMore
set_option linter.unusedVariables false
set_option linter.unusedSimpArgs false

theorem wrap_succD (i : Nat) (h : i ≤ 9000000000000000000) : wrap64 ((i : Int) + 1) = ((i + 1 : Nat) : Int) := by unfold wrap64; omega
theorem refThere (t : Int) (l0 l1 : List S38) (fl : Bool) (k b : Int) : winnowref19_there.f t l0 l1 fl k b = some (okT l0.length l1.length ⟨k, b⟩) := by
  unfold winnowref19_there.f okT roomT
  by_cases hb : b ≥ 0
  · rw [if_pos hb]
    by_cases h0 : k = 0
    · rw [if_pos h0]
      subst h0
      by_cases h1 : b < (l0.length : Int)
      · rw [if_pos h1]; simp; omega
      · rw [if_neg h1, if_neg (by decide)]; simp; omega
    · rw [if_neg h0]
      by_cases h1 : k = 1
      · rw [if_pos h1]
        subst h1
        simp
        by_cases h2 : b < (l1.length : Int) <;> simp [h2] <;> (try omega)
      · rw [if_neg h1]
        simp [h0, h1]
        try omega
  · rw [if_neg hb]
    simp
    omega
/-- where a task may be -/
def isT (l0 l1 : List S38) (k b : Int) : Prop := (k = 0 ∧ ∃ n : Nat, b = n ∧ n < l0.length) ∨ (k = 1 ∧ ∃ n : Nat, b = n ∧ n < l1.length)
theorem refAt (t : Int) (l0 l1 : List S38) (fl : Bool) (k b : Int) (h : isT l0 l1 k b) : winnowref19_at.f t l0 l1 fl k b = some ((stP l0 l1 k b).f0, (stP l0 l1 k b).f1, (stP l0 l1 k b).f2) := by
  unfold winnowref19_at.f stP
  rcases h with ⟨rfl, n, rfl, hn⟩ | ⟨rfl, n, rfl, hn⟩
  · rw [if_pos rfl, if_pos (by omega), if_pos (by omega), if_pos rfl]
  · rw [if_neg (by decide), if_pos (by omega), if_pos (by omega), if_neg (by decide)]
def putP (t : Int) (l0 l1 : List S38) (fl : Bool) (k b : Int) (s : S38) : Int × List S38 × List S38 × Bool := if k = 0 then (t, l0.set b.toNat s, l1, fl) else (t, l0, l1.set b.toNat s, fl)
theorem refWith (t : Int) (l0 l1 : List S38) (fl : Bool) (k b x y z : Int) (h : isT l0 l1 k b) (h0 : l0.length ≤ 100000) (h1 : l1.length ≤ 100000) : winnowref19_with.f t l0 l1 fl k b x y z = some (putP t l0 l1 fl k b ⟨x, y, z⟩) := by
  unfold winnowref19_with.f winnowref19_Copied.f putP
  rw [Option.bind_some, List.nil_append, List.length_nil, if_pos (by omega), Option.bind_some, List.nil_append, List.length_nil, if_pos (by omega), Option.bind_some]
  dsimp only
  rcases h with ⟨rfl, n, rfl, hn⟩ | ⟨rfl, n, rfl, hn⟩
  · rw [if_pos rfl, if_pos (by omega), if_pos (by omega), if_pos rfl]
  · rw [if_neg (by decide), if_pos (by omega), if_pos (by omega), if_neg (by decide)]
/-- a task of a right book -/
theorem st_good {t : Int} {l0 l1 : List S38} {fl : Bool} {k b : Int} (h : checkP t l0 l1 fl = 0) (ht : isT l0 l1 k b) : ∃ held, goodP t held (stP l0 l1 k b) = true := by
  obtain ⟨q1, q2, q3, q4, q5, q6, q7, _⟩ := check_ok h
  unfold stP
  rcases ht with ⟨rfl, n, rfl, hn⟩ | ⟨rfl, n, rfl, hn⟩
  · exact ⟨false, by rw [if_pos rfl]; exact q6 _ (rd_mem hn)⟩
  · exact ⟨true, by rw [if_neg (by decide)]; exact q7 _ (rd_mem hn)⟩
theorem len_ok {t : Int} {l0 l1 : List S38} {fl : Bool} (h : checkP t l0 l1 fl = 0) : l0.length ≤ 100000 ∧ l1.length ≤ 100000 := by
  obtain ⟨q1, q2, q3, q4, q5, q6, q7, _⟩ := check_ok h
  omega
theorem refCharged (t : Int) (l0 l1 : List S38) (fl : Bool) (k b : Int) (h : isT l0 l1 k b) (h0 : l0.length ≤ 100000) (h1 : l1.length ≤ 100000) (hs : 0 ≤ (stP l0 l1 k b).f2 ∧ (stP l0 l1 k b).f2 ≤ 1000) :
    winnowref19_charged.f t l0 l1 fl k b = some (putP t l0 l1 (decide ((stP l0 l1 k b).f2 + 1 = t)) k b ⟨0, (stP l0 l1 k b).f1, (stP l0 l1 k b).f2 + 1⟩) := by
  unfold winnowref19_charged.f
  rw [refAt t l0 l1 fl k b h, Option.bind_some]
  dsimp only
  rw [show wrap64 ((stP l0 l1 k b).f2 + 1) = (stP l0 l1 k b).f2 + 1 from by unfold wrap64; omega, refWith t l0 l1 fl k b _ _ _ h h0 h1, Option.bind_some]
  unfold putP
  by_cases hk : k = 0
  · rw [if_pos hk, if_pos hk]; rfl
  · rw [if_neg hk, if_neg hk]; rfl
end Go.Proofs.YtponmfnegdlppaaDoor.P

end
section
-- Written by a program of this session (wip/tools/hprint.py, over the kit's printer), not by hand. Lean checks it.
namespace Go.Proofs.YtponmfnegdlppaaDoor.P
open Go.RowKit Go.Proofs.YtponmfnegdlppaaDoorW.PrintWords Go.Proofs.YtponmfnegdlppaaDoorW.PrintLast Go.Proofs.YtponmfnegdlppaaDoorW.PrintMore
attribute [local go_sem] max2_int min2_int max_two min_two max_three min_three max_four min_four
set_option linter.unusedVariables false
set_option linter.unusedSimpArgs false

/-! ### winnowref19_refusal: function 58 -/
def winnowref19_refusal.f (a0_0 : Int) (l0_1 : List (S38)) (l0_2 : List (S38)) (a0_3 : Bool) (a1_0 : Int) (a1_1 : Int) : Option (Int) := (winnowref19_Check.f a0_0 l0_1 l0_2 a0_3).bind fun t283 => (if t283 = 0 then ((winnowref19_there.f a0_0 l0_1 l0_2 a0_3 a1_0 a1_1).bind fun t284 => (if t284 = true then (some 0) else (some 191))) else (some 190))
set_option maxHeartbeats 8000000 in
set_option maxRecDepth 100000 in
theorem winnowref19_refusal.calls (a0_0 : Int) (A0_1 : Option Addr) (c0_1 : Nat) (l0_1 : List (S38)) (A0_2 : Option Addr) (c0_2 : Nat) (l0_2 : List (S38)) (a0_3 : Bool) (a1_0 : Int) (a1_1 : Int) (r : Int) (w : World) (hr0_1 : Kd.C k38 w A0_1 l0_1.length l0_1) (hc0_1 : l0_1.length ≤ c0_1) (hr0_2 : Kd.C k38 w A0_2 l0_2.length l0_2) (hc0_2 : l0_2.length ≤ c0_2) (h : winnowref19_refusal.f a0_0 l0_1 l0_2 a0_3 a1_0 a1_1 = some r) :
    Calls Tryd.prog 58 #[.agg #[.int .i64 a0_0, .slice A0_1 l0_1.length c0_1, .slice A0_2 l0_2.length c0_2, .bool a0_3], .agg #[.int .i64 a1_0, .int .i64 a1_1]] w fun e w' => e = .returned (.int .i64 r) ∧ Below w.heap.size w w' := by
  have hu24 := Tryd.underlying24
  have hu29 := Tryd.underlying29
  have HR0_1 := Aside0.mk hr0_1
  have HC0_1 := Aside0.mk hc0_1
  clear hr0_1 hc0_1
  have HR0_2 := Aside0.mk hr0_2
  have HC0_2 := Aside0.mk hc0_2
  clear hr0_2 hc0_2
  have HB := Aside0.mk (Below.refl w.heap.size w)
  have H : ((winnowref19_Check.f a0_0 l0_1 l0_2 a0_3).bind fun t283 => (if t283 = 0 then ((winnowref19_there.f a0_0 l0_1 l0_2 a0_3 a1_0 a1_1).bind fun t284 => (if t284 = true then (some 0) else (some 191))) else (some 190))) = some r := h
  clear h
  replace H := Option.bind_eq_some_iff.mp H
  obtain ⟨t283, A30, H⟩ := H
  replace H : (if t283 = 0 then ((winnowref19_there.f a0_0 l0_1 l0_2 a0_3 a1_0 a1_1).bind fun t284 => (if t284 = true then (some 0) else (some 191))) else (some 190)) = some r := H
  have A3 := Aside0.mk A30
  clear A30
  by_cases c4 : t283 = 0
  · rw [if_pos c4] at H
    have c4b0 : (t283 == 0) = true := beq_iff_eq.mpr c4
    have c4b1 : (t283 != 0) = false := bne_eq_false_iff_eq.mpr c4
    clear c4
    replace H := Option.bind_eq_some_iff.mp H
    obtain ⟨t284, A50, H⟩ := H
    replace H : (if t284 = true then (some 0) else (some 191)) = some r := H
    have A5 := Aside0.mk A50
    clear A50
    by_cases c6 : t284 = true
    · subst c6
      have H1 : (some 0) = some r := by rw [if_pos rfl] at H; exact H
      clear H
      have H := H1
      clear H1
      obtain rfl := Option.some.inj H
      go_enter Tryd.func58, Tryd.ntmps58
      go_wp2_with (first | ((with_reducible refine gate_dst (N := 2) rfl ?_); refine box_event ?hg (N := 2) ?hd (cs := #[.int .i64 a0_0, .slice A0_1 l0_1.length c0_1, .slice A0_2 l0_2.length c0_2, .bool a0_3]) (t := 24) ?hr ?_; (case hd => rfl); (case hg => rfl); (case hr => first | (go_simp; done) | (go_simp; rfl)); intro gb281 hg w7 hbox hb; have n0_ := Aside0.mk (below_step (by repeat (first | (with_reducible first | exact HB.out | apply below_alloc | apply pw_below_drewN | apply below_drew1) | exact HB.out)) hb); have n1_ := Aside0.mk (hbox); have n2_ := Aside0.mk ((by rw [hg]; exact (below_size (by repeat (first | (with_reducible first | exact HB.out | apply below_alloc | apply pw_below_drewN | apply below_drew1) | exact HB.out))) : w.heap.size ≤ gb281)); have n3_ := Aside0.mk ((by rw [hg]; exact (below_size (by repeat (first | (with_reducible first | exact HB.out | apply below_alloc | apply pw_below_drewN | apply below_drew1) | exact HB.out))) : w.heap.size ≤ gb281)); clear HB; have HB := n0_; have BK281 := n1_; have GW281 := n2_; have GE281 := n3_; clear n0_ n1_ n2_ n3_; clear hb hbox hg) | ((with_reducible refine gate_dst (N := 3) rfl ?_); refine box_event ?hg (N := 3) ?hd (cs := #[.int .i64 a1_0, .int .i64 a1_1]) (t := 29) ?hr ?_; (case hd => rfl); (case hg => rfl); (case hr => first | (go_simp; done) | (go_simp; rfl)); intro gb282 hg w8 hbox hb; have n0_ := Aside0.mk (blk_below (g := gb281) (o := .cells #[.int .i64 a0_0, .slice A0_1 l0_1.length c0_1, .slice A0_2 l0_2.length c0_2, .bool a0_3] 24 (0, 0)) (by (with_reducible repeat (first | refine blk_drewN ?_ _ | refine blk_drew ?_ | refine blk_alloc ?_ _)); exact BK281.out) hb); have n1_ := Aside0.mk (below_step (by repeat (first | (with_reducible first | exact HB.out | apply below_alloc | apply pw_below_drewN | apply below_drew1 | refine below_set ?_ GE281.out) | exact HB.out)) hb); have n2_ := Aside0.mk (hbox); have n3_ := Aside0.mk ((by rw [hg]; exact (below_size (by repeat (first | (with_reducible first | exact HB.out | apply below_alloc | apply pw_below_drewN | apply below_drew1 | refine below_set ?_ GE281.out) | exact HB.out))) : w.heap.size ≤ gb282)); have n4_ := Aside0.mk ((by rw [hg]; exact (below_size (by repeat (first | (with_reducible first | exact HB.out | apply below_alloc | apply pw_below_drewN | apply below_drew1 | refine below_set ?_ GE281.out) | exact HB.out))) : w.heap.size ≤ gb282)); have n5_ := Aside0.mk ((by rw [hg]; exact Nat.ne_of_lt (blk_lt (g := gb281) (o := .cells #[.int .i64 a0_0, .slice A0_1 l0_1.length c0_1, .slice A0_2 l0_2.length c0_2, .bool a0_3] 24 (0, 0)) (by (with_reducible repeat (first | refine blk_drewN ?_ _ | refine blk_drew ?_ | refine blk_alloc ?_ _)); exact BK281.out)) : gb281 ≠ gb282)); have n6_ := Aside0.mk ((by rw [hg]; exact Nat.ne_of_gt (blk_lt (g := gb281) (o := .cells #[.int .i64 a0_0, .slice A0_1 l0_1.length c0_1, .slice A0_2 l0_2.length c0_2, .bool a0_3] 24 (0, 0)) (by (with_reducible repeat (first | refine blk_drewN ?_ _ | refine blk_drew ?_ | refine blk_alloc ?_ _)); exact BK281.out)) : gb282 ≠ gb281)); clear BK281; clear HB; have BK281 := n0_; have HB := n1_; have BK282 := n2_; have GW282 := n3_; have GE282 := n4_; have NB281_282 := n5_; have NB282_281 := n6_; clear n0_ n1_ n2_ n3_ n4_ n5_ n6_; clear hb hbox hg; have hnb9 := NB281_282.out; have hnc9 := NB282_281.out; have hcz10_0 : w8.cell? ⟨gb281, 0, none⟩ = some (.int .i64 a0_0) := (blk_cell BK281.out 0).trans rfl; have hcz10_1 : w8.cell? ⟨gb281, 1, none⟩ = some (.slice A0_1 l0_1.length c0_1) := (blk_cell BK281.out 1).trans rfl; have hcz10_2 : w8.cell? ⟨gb281, 2, none⟩ = some (.slice A0_2 l0_2.length c0_2) := (blk_cell BK281.out 2).trans rfl; have hcz10_3 : w8.cell? ⟨gb281, 3, none⟩ = some (.bool a0_3) := (blk_cell BK281.out 3).trans rfl; have hfz10_0 := blk_frozen BK281.out 0; have hfz10_1 := blk_frozen BK281.out 1; have hfz10_2 := blk_frozen BK281.out 2; have hfz10_3 := blk_frozen BK281.out 3) | ((with_reducible refine gate_callee (f := 16) rfl ?_); refine goesL_ (some 6) rfl rfl Tryd.func16 (by kernel_rfl) rfl #[.agg #[.int .i64 a0_0, .slice A0_1 l0_1.length c0_1, .slice A0_2 l0_2.length c0_2, .bool a0_3]] rfl (by (try simp only [List.map_toArray, List.map_cons, List.map_nil]); first | done | rfl | (simp only [List.length_drop, List.length_take]; rfl)) ?_; (with_reducible refine (winnowref19_Check.calls a0_0 _ _ l0_1 _ _ l0_2 a0_3 t283 _ ?side1 ?side2 ?side3 ?side4 A3.out).mono ?_); (case side1 => repeat (first | exact (Kd.C_below HR0_1.out HB.out) | (with_reducible refine Kd.C_alloc ?_ _) | (with_reducible refine Kd.C_drewN ?_ _) | (with_reducible refine Kd.C_drew ?_))); (case side2 => exact HC0_1.out); (case side3 => repeat (first | exact (Kd.C_below HR0_2.out HB.out) | (with_reducible refine Kd.C_alloc ?_ _) | (with_reducible refine Kd.C_drewN ?_ _) | (with_reducible refine Kd.C_drew ?_))); (case side4 => exact HC0_2.out); rintro e w11 ⟨rfl, hb⟩; refine ⟨_, rfl, ?_⟩; have n0_ := Aside0.mk (blk_below (g := gb281) (o := .cells #[.int .i64 a0_0, .slice A0_1 l0_1.length c0_1, .slice A0_2 l0_2.length c0_2, .bool a0_3] 24 (0, 0)) (by (with_reducible repeat (first | refine blk_drewN ?_ _ | refine blk_drew ?_ | refine blk_alloc ?_ _)); exact BK281.out) hb); have n1_ := Aside0.mk (blk_below (g := gb282) (o := .cells #[.int .i64 a1_0, .int .i64 a1_1] 29 (0, 0)) (by (with_reducible repeat (first | refine blk_drewN ?_ _ | refine blk_drew ?_ | refine blk_alloc ?_ _)); exact BK282.out) hb); have n2_ := Aside0.mk (below_step (by repeat (first | (with_reducible first | exact HB.out | apply below_alloc | apply pw_below_drewN | apply below_drew1 | refine below_set ?_ GE281.out | refine below_set ?_ GE282.out) | exact HB.out)) hb); clear BK281; clear BK282; clear HB; have BK281 := n0_; have BK282 := n1_; have HB := n2_; clear n0_ n1_ n2_; (try clear hb); (try clear hb2); (try clear hk); (try clear hi); have hcz12_0 : w11.cell? ⟨gb281, 0, none⟩ = some (.int .i64 a0_0) := (blk_cell BK281.out 0).trans rfl; have hcz12_1 : w11.cell? ⟨gb281, 1, none⟩ = some (.slice A0_1 l0_1.length c0_1) := (blk_cell BK281.out 1).trans rfl; have hcz12_2 : w11.cell? ⟨gb281, 2, none⟩ = some (.slice A0_2 l0_2.length c0_2) := (blk_cell BK281.out 2).trans rfl; have hcz12_3 : w11.cell? ⟨gb281, 3, none⟩ = some (.bool a0_3) := (blk_cell BK281.out 3).trans rfl; have hfz12_0 := blk_frozen BK281.out 0; have hfz12_1 := blk_frozen BK281.out 1; have hfz12_2 := blk_frozen BK281.out 2; have hfz12_3 := blk_frozen BK281.out 3; have hcz13_0 : w11.cell? ⟨gb282, 0, none⟩ = some (.int .i64 a1_0) := (blk_cell BK282.out 0).trans rfl; have hcz13_1 : w11.cell? ⟨gb282, 1, none⟩ = some (.int .i64 a1_1) := (blk_cell BK282.out 1).trans rfl; have hfz13_0 := blk_frozen BK282.out 0; have hfz13_1 := blk_frozen BK282.out 1) | ((with_reducible refine gate_callee (f := 60) rfl ?_); refine goesL_ (some 10) rfl rfl Tryd.func60 (by kernel_rfl) rfl #[.agg #[.int .i64 a0_0, .slice A0_1 l0_1.length c0_1, .slice A0_2 l0_2.length c0_2, .bool a0_3], .agg #[.int .i64 a1_0, .int .i64 a1_1]] rfl (by (try simp only [List.map_toArray, List.map_cons, List.map_nil]); first | done | rfl | (simp only [List.length_drop, List.length_take]; rfl)) ?_; (with_reducible refine (winnowref19_there.calls a0_0 _ _ l0_1 _ _ l0_2 a0_3 a1_0 a1_1 true _ ?side1 ?side2 ?side3 ?side4 A5.out).mono ?_); (case side1 => repeat (first | exact (Kd.C_below HR0_1.out HB.out) | (with_reducible refine Kd.C_alloc ?_ _) | (with_reducible refine Kd.C_drewN ?_ _) | (with_reducible refine Kd.C_drew ?_))); (case side2 => exact HC0_1.out); (case side3 => repeat (first | exact (Kd.C_below HR0_2.out HB.out) | (with_reducible refine Kd.C_alloc ?_ _) | (with_reducible refine Kd.C_drewN ?_ _) | (with_reducible refine Kd.C_drew ?_))); (case side4 => exact HC0_2.out); rintro e w14 ⟨rfl, hb⟩; refine ⟨_, rfl, ?_⟩; have n0_ := Aside0.mk (blk_below (g := gb281) (o := .cells #[.int .i64 a0_0, .slice A0_1 l0_1.length c0_1, .slice A0_2 l0_2.length c0_2, .bool a0_3] 24 (0, 0)) (by (with_reducible repeat (first | refine blk_drewN ?_ _ | refine blk_drew ?_ | refine blk_alloc ?_ _)); exact BK281.out) hb); have n1_ := Aside0.mk (blk_below (g := gb282) (o := .cells #[.int .i64 a1_0, .int .i64 a1_1] 29 (0, 0)) (by (with_reducible repeat (first | refine blk_drewN ?_ _ | refine blk_drew ?_ | refine blk_alloc ?_ _)); exact BK282.out) hb); have n2_ := Aside0.mk (below_step (by repeat (first | (with_reducible first | exact HB.out | apply below_alloc | apply pw_below_drewN | apply below_drew1 | refine below_set ?_ GE281.out | refine below_set ?_ GE282.out) | exact HB.out)) hb); clear BK281; clear BK282; clear HB; have BK281 := n0_; have BK282 := n1_; have HB := n2_; clear n0_ n1_ n2_; (try clear hb); (try clear hb2); (try clear hk); (try clear hi)))
      go_ret
      exact ⟨by first | rfl | (simp [errW_none, errW_some] <;> rfl) | (simp [*, errW_none, errW_some] <;> rfl), by repeat (first | (with_reducible first | exact HB.out | apply below_alloc | apply pw_below_drewN | apply below_drew1 | refine below_set ?_ GE281.out | refine below_set ?_ GE282.out) | exact HB.out)⟩
    · replace c6 := Bool.eq_false_iff.mpr c6
      subst c6
      have H1 : (some 191) = some r := by rw [if_neg (show ¬ (false = true) by decide)] at H; exact H
      clear H
      have H := H1
      clear H1
      obtain rfl := Option.some.inj H
      go_enter Tryd.func58, Tryd.ntmps58
      go_wp2_with (first | ((with_reducible refine gate_dst (N := 2) rfl ?_); refine box_event ?hg (N := 2) ?hd (cs := #[.int .i64 a0_0, .slice A0_1 l0_1.length c0_1, .slice A0_2 l0_2.length c0_2, .bool a0_3]) (t := 24) ?hr ?_; (case hd => rfl); (case hg => rfl); (case hr => first | (go_simp; done) | (go_simp; rfl)); intro gb281 hg w15 hbox hb; have n0_ := Aside0.mk (below_step (by repeat (first | (with_reducible first | exact HB.out | apply below_alloc | apply pw_below_drewN | apply below_drew1) | exact HB.out)) hb); have n1_ := Aside0.mk (hbox); have n2_ := Aside0.mk ((by rw [hg]; exact (below_size (by repeat (first | (with_reducible first | exact HB.out | apply below_alloc | apply pw_below_drewN | apply below_drew1) | exact HB.out))) : w.heap.size ≤ gb281)); have n3_ := Aside0.mk ((by rw [hg]; exact (below_size (by repeat (first | (with_reducible first | exact HB.out | apply below_alloc | apply pw_below_drewN | apply below_drew1) | exact HB.out))) : w.heap.size ≤ gb281)); clear HB; have HB := n0_; have BK281 := n1_; have GW281 := n2_; have GE281 := n3_; clear n0_ n1_ n2_ n3_; clear hb hbox hg) | ((with_reducible refine gate_dst (N := 3) rfl ?_); refine box_event ?hg (N := 3) ?hd (cs := #[.int .i64 a1_0, .int .i64 a1_1]) (t := 29) ?hr ?_; (case hd => rfl); (case hg => rfl); (case hr => first | (go_simp; done) | (go_simp; rfl)); intro gb282 hg w16 hbox hb; have n0_ := Aside0.mk (blk_below (g := gb281) (o := .cells #[.int .i64 a0_0, .slice A0_1 l0_1.length c0_1, .slice A0_2 l0_2.length c0_2, .bool a0_3] 24 (0, 0)) (by (with_reducible repeat (first | refine blk_drewN ?_ _ | refine blk_drew ?_ | refine blk_alloc ?_ _)); exact BK281.out) hb); have n1_ := Aside0.mk (below_step (by repeat (first | (with_reducible first | exact HB.out | apply below_alloc | apply pw_below_drewN | apply below_drew1 | refine below_set ?_ GE281.out) | exact HB.out)) hb); have n2_ := Aside0.mk (hbox); have n3_ := Aside0.mk ((by rw [hg]; exact (below_size (by repeat (first | (with_reducible first | exact HB.out | apply below_alloc | apply pw_below_drewN | apply below_drew1 | refine below_set ?_ GE281.out) | exact HB.out))) : w.heap.size ≤ gb282)); have n4_ := Aside0.mk ((by rw [hg]; exact (below_size (by repeat (first | (with_reducible first | exact HB.out | apply below_alloc | apply pw_below_drewN | apply below_drew1 | refine below_set ?_ GE281.out) | exact HB.out))) : w.heap.size ≤ gb282)); have n5_ := Aside0.mk ((by rw [hg]; exact Nat.ne_of_lt (blk_lt (g := gb281) (o := .cells #[.int .i64 a0_0, .slice A0_1 l0_1.length c0_1, .slice A0_2 l0_2.length c0_2, .bool a0_3] 24 (0, 0)) (by (with_reducible repeat (first | refine blk_drewN ?_ _ | refine blk_drew ?_ | refine blk_alloc ?_ _)); exact BK281.out)) : gb281 ≠ gb282)); have n6_ := Aside0.mk ((by rw [hg]; exact Nat.ne_of_gt (blk_lt (g := gb281) (o := .cells #[.int .i64 a0_0, .slice A0_1 l0_1.length c0_1, .slice A0_2 l0_2.length c0_2, .bool a0_3] 24 (0, 0)) (by (with_reducible repeat (first | refine blk_drewN ?_ _ | refine blk_drew ?_ | refine blk_alloc ?_ _)); exact BK281.out)) : gb282 ≠ gb281)); clear BK281; clear HB; have BK281 := n0_; have HB := n1_; have BK282 := n2_; have GW282 := n3_; have GE282 := n4_; have NB281_282 := n5_; have NB282_281 := n6_; clear n0_ n1_ n2_ n3_ n4_ n5_ n6_; clear hb hbox hg; have hnb17 := NB281_282.out; have hnc17 := NB282_281.out; have hcz18_0 : w16.cell? ⟨gb281, 0, none⟩ = some (.int .i64 a0_0) := (blk_cell BK281.out 0).trans rfl; have hcz18_1 : w16.cell? ⟨gb281, 1, none⟩ = some (.slice A0_1 l0_1.length c0_1) := (blk_cell BK281.out 1).trans rfl; have hcz18_2 : w16.cell? ⟨gb281, 2, none⟩ = some (.slice A0_2 l0_2.length c0_2) := (blk_cell BK281.out 2).trans rfl; have hcz18_3 : w16.cell? ⟨gb281, 3, none⟩ = some (.bool a0_3) := (blk_cell BK281.out 3).trans rfl; have hfz18_0 := blk_frozen BK281.out 0; have hfz18_1 := blk_frozen BK281.out 1; have hfz18_2 := blk_frozen BK281.out 2; have hfz18_3 := blk_frozen BK281.out 3) | ((with_reducible refine gate_callee (f := 16) rfl ?_); refine goesL_ (some 6) rfl rfl Tryd.func16 (by kernel_rfl) rfl #[.agg #[.int .i64 a0_0, .slice A0_1 l0_1.length c0_1, .slice A0_2 l0_2.length c0_2, .bool a0_3]] rfl (by (try simp only [List.map_toArray, List.map_cons, List.map_nil]); first | done | rfl | (simp only [List.length_drop, List.length_take]; rfl)) ?_; (with_reducible refine (winnowref19_Check.calls a0_0 _ _ l0_1 _ _ l0_2 a0_3 t283 _ ?side1 ?side2 ?side3 ?side4 A3.out).mono ?_); (case side1 => repeat (first | exact (Kd.C_below HR0_1.out HB.out) | (with_reducible refine Kd.C_alloc ?_ _) | (with_reducible refine Kd.C_drewN ?_ _) | (with_reducible refine Kd.C_drew ?_))); (case side2 => exact HC0_1.out); (case side3 => repeat (first | exact (Kd.C_below HR0_2.out HB.out) | (with_reducible refine Kd.C_alloc ?_ _) | (with_reducible refine Kd.C_drewN ?_ _) | (with_reducible refine Kd.C_drew ?_))); (case side4 => exact HC0_2.out); rintro e w19 ⟨rfl, hb⟩; refine ⟨_, rfl, ?_⟩; have n0_ := Aside0.mk (blk_below (g := gb281) (o := .cells #[.int .i64 a0_0, .slice A0_1 l0_1.length c0_1, .slice A0_2 l0_2.length c0_2, .bool a0_3] 24 (0, 0)) (by (with_reducible repeat (first | refine blk_drewN ?_ _ | refine blk_drew ?_ | refine blk_alloc ?_ _)); exact BK281.out) hb); have n1_ := Aside0.mk (blk_below (g := gb282) (o := .cells #[.int .i64 a1_0, .int .i64 a1_1] 29 (0, 0)) (by (with_reducible repeat (first | refine blk_drewN ?_ _ | refine blk_drew ?_ | refine blk_alloc ?_ _)); exact BK282.out) hb); have n2_ := Aside0.mk (below_step (by repeat (first | (with_reducible first | exact HB.out | apply below_alloc | apply pw_below_drewN | apply below_drew1 | refine below_set ?_ GE281.out | refine below_set ?_ GE282.out) | exact HB.out)) hb); clear BK281; clear BK282; clear HB; have BK281 := n0_; have BK282 := n1_; have HB := n2_; clear n0_ n1_ n2_; (try clear hb); (try clear hb2); (try clear hk); (try clear hi); have hcz20_0 : w19.cell? ⟨gb281, 0, none⟩ = some (.int .i64 a0_0) := (blk_cell BK281.out 0).trans rfl; have hcz20_1 : w19.cell? ⟨gb281, 1, none⟩ = some (.slice A0_1 l0_1.length c0_1) := (blk_cell BK281.out 1).trans rfl; have hcz20_2 : w19.cell? ⟨gb281, 2, none⟩ = some (.slice A0_2 l0_2.length c0_2) := (blk_cell BK281.out 2).trans rfl; have hcz20_3 : w19.cell? ⟨gb281, 3, none⟩ = some (.bool a0_3) := (blk_cell BK281.out 3).trans rfl; have hfz20_0 := blk_frozen BK281.out 0; have hfz20_1 := blk_frozen BK281.out 1; have hfz20_2 := blk_frozen BK281.out 2; have hfz20_3 := blk_frozen BK281.out 3; have hcz21_0 : w19.cell? ⟨gb282, 0, none⟩ = some (.int .i64 a1_0) := (blk_cell BK282.out 0).trans rfl; have hcz21_1 : w19.cell? ⟨gb282, 1, none⟩ = some (.int .i64 a1_1) := (blk_cell BK282.out 1).trans rfl; have hfz21_0 := blk_frozen BK282.out 0; have hfz21_1 := blk_frozen BK282.out 1) | ((with_reducible refine gate_callee (f := 60) rfl ?_); refine goesL_ (some 10) rfl rfl Tryd.func60 (by kernel_rfl) rfl #[.agg #[.int .i64 a0_0, .slice A0_1 l0_1.length c0_1, .slice A0_2 l0_2.length c0_2, .bool a0_3], .agg #[.int .i64 a1_0, .int .i64 a1_1]] rfl (by (try simp only [List.map_toArray, List.map_cons, List.map_nil]); first | done | rfl | (simp only [List.length_drop, List.length_take]; rfl)) ?_; (with_reducible refine (winnowref19_there.calls a0_0 _ _ l0_1 _ _ l0_2 a0_3 a1_0 a1_1 false _ ?side1 ?side2 ?side3 ?side4 A5.out).mono ?_); (case side1 => repeat (first | exact (Kd.C_below HR0_1.out HB.out) | (with_reducible refine Kd.C_alloc ?_ _) | (with_reducible refine Kd.C_drewN ?_ _) | (with_reducible refine Kd.C_drew ?_))); (case side2 => exact HC0_1.out); (case side3 => repeat (first | exact (Kd.C_below HR0_2.out HB.out) | (with_reducible refine Kd.C_alloc ?_ _) | (with_reducible refine Kd.C_drewN ?_ _) | (with_reducible refine Kd.C_drew ?_))); (case side4 => exact HC0_2.out); rintro e w22 ⟨rfl, hb⟩; refine ⟨_, rfl, ?_⟩; have n0_ := Aside0.mk (blk_below (g := gb281) (o := .cells #[.int .i64 a0_0, .slice A0_1 l0_1.length c0_1, .slice A0_2 l0_2.length c0_2, .bool a0_3] 24 (0, 0)) (by (with_reducible repeat (first | refine blk_drewN ?_ _ | refine blk_drew ?_ | refine blk_alloc ?_ _)); exact BK281.out) hb); have n1_ := Aside0.mk (blk_below (g := gb282) (o := .cells #[.int .i64 a1_0, .int .i64 a1_1] 29 (0, 0)) (by (with_reducible repeat (first | refine blk_drewN ?_ _ | refine blk_drew ?_ | refine blk_alloc ?_ _)); exact BK282.out) hb); have n2_ := Aside0.mk (below_step (by repeat (first | (with_reducible first | exact HB.out | apply below_alloc | apply pw_below_drewN | apply below_drew1 | refine below_set ?_ GE281.out | refine below_set ?_ GE282.out) | exact HB.out)) hb); clear BK281; clear BK282; clear HB; have BK281 := n0_; have BK282 := n1_; have HB := n2_; clear n0_ n1_ n2_; (try clear hb); (try clear hb2); (try clear hk); (try clear hi)))
      go_ret
      exact ⟨by first | rfl | (simp [errW_none, errW_some] <;> rfl) | (simp [*, errW_none, errW_some] <;> rfl), by repeat (first | (with_reducible first | exact HB.out | apply below_alloc | apply pw_below_drewN | apply below_drew1 | refine below_set ?_ GE281.out | refine below_set ?_ GE282.out) | exact HB.out)⟩
  · rw [if_neg c4] at H
    have c4b0 : (t283 == 0) = false := beq_eq_false_iff_ne.mpr c4
    have c4b1 : (t283 != 0) = true := bne_iff_ne.mpr c4
    obtain rfl := Option.some.inj H
    go_enter Tryd.func58, Tryd.ntmps58
    go_wp2_with (first | ((with_reducible refine gate_dst (N := 2) rfl ?_); refine box_event ?hg (N := 2) ?hd (cs := #[.int .i64 a0_0, .slice A0_1 l0_1.length c0_1, .slice A0_2 l0_2.length c0_2, .bool a0_3]) (t := 24) ?hr ?_; (case hd => rfl); (case hg => rfl); (case hr => first | (go_simp; done) | (go_simp; rfl)); intro gb281 hg w23 hbox hb; have n0_ := Aside0.mk (below_step (by repeat (first | (with_reducible first | exact HB.out | apply below_alloc | apply pw_below_drewN | apply below_drew1) | exact HB.out)) hb); have n1_ := Aside0.mk (hbox); have n2_ := Aside0.mk ((by rw [hg]; exact (below_size (by repeat (first | (with_reducible first | exact HB.out | apply below_alloc | apply pw_below_drewN | apply below_drew1) | exact HB.out))) : w.heap.size ≤ gb281)); have n3_ := Aside0.mk ((by rw [hg]; exact (below_size (by repeat (first | (with_reducible first | exact HB.out | apply below_alloc | apply pw_below_drewN | apply below_drew1) | exact HB.out))) : w.heap.size ≤ gb281)); clear HB; have HB := n0_; have BK281 := n1_; have GW281 := n2_; have GE281 := n3_; clear n0_ n1_ n2_ n3_; clear hb hbox hg) | ((with_reducible refine gate_dst (N := 3) rfl ?_); refine box_event ?hg (N := 3) ?hd (cs := #[.int .i64 a1_0, .int .i64 a1_1]) (t := 29) ?hr ?_; (case hd => rfl); (case hg => rfl); (case hr => first | (go_simp; done) | (go_simp; rfl)); intro gb282 hg w24 hbox hb; have n0_ := Aside0.mk (blk_below (g := gb281) (o := .cells #[.int .i64 a0_0, .slice A0_1 l0_1.length c0_1, .slice A0_2 l0_2.length c0_2, .bool a0_3] 24 (0, 0)) (by (with_reducible repeat (first | refine blk_drewN ?_ _ | refine blk_drew ?_ | refine blk_alloc ?_ _)); exact BK281.out) hb); have n1_ := Aside0.mk (below_step (by repeat (first | (with_reducible first | exact HB.out | apply below_alloc | apply pw_below_drewN | apply below_drew1 | refine below_set ?_ GE281.out) | exact HB.out)) hb); have n2_ := Aside0.mk (hbox); have n3_ := Aside0.mk ((by rw [hg]; exact (below_size (by repeat (first | (with_reducible first | exact HB.out | apply below_alloc | apply pw_below_drewN | apply below_drew1 | refine below_set ?_ GE281.out) | exact HB.out))) : w.heap.size ≤ gb282)); have n4_ := Aside0.mk ((by rw [hg]; exact (below_size (by repeat (first | (with_reducible first | exact HB.out | apply below_alloc | apply pw_below_drewN | apply below_drew1 | refine below_set ?_ GE281.out) | exact HB.out))) : w.heap.size ≤ gb282)); have n5_ := Aside0.mk ((by rw [hg]; exact Nat.ne_of_lt (blk_lt (g := gb281) (o := .cells #[.int .i64 a0_0, .slice A0_1 l0_1.length c0_1, .slice A0_2 l0_2.length c0_2, .bool a0_3] 24 (0, 0)) (by (with_reducible repeat (first | refine blk_drewN ?_ _ | refine blk_drew ?_ | refine blk_alloc ?_ _)); exact BK281.out)) : gb281 ≠ gb282)); have n6_ := Aside0.mk ((by rw [hg]; exact Nat.ne_of_gt (blk_lt (g := gb281) (o := .cells #[.int .i64 a0_0, .slice A0_1 l0_1.length c0_1, .slice A0_2 l0_2.length c0_2, .bool a0_3] 24 (0, 0)) (by (with_reducible repeat (first | refine blk_drewN ?_ _ | refine blk_drew ?_ | refine blk_alloc ?_ _)); exact BK281.out)) : gb282 ≠ gb281)); clear BK281; clear HB; have BK281 := n0_; have HB := n1_; have BK282 := n2_; have GW282 := n3_; have GE282 := n4_; have NB281_282 := n5_; have NB282_281 := n6_; clear n0_ n1_ n2_ n3_ n4_ n5_ n6_; clear hb hbox hg; have hnb25 := NB281_282.out; have hnc25 := NB282_281.out; have hcz26_0 : w24.cell? ⟨gb281, 0, none⟩ = some (.int .i64 a0_0) := (blk_cell BK281.out 0).trans rfl; have hcz26_1 : w24.cell? ⟨gb281, 1, none⟩ = some (.slice A0_1 l0_1.length c0_1) := (blk_cell BK281.out 1).trans rfl; have hcz26_2 : w24.cell? ⟨gb281, 2, none⟩ = some (.slice A0_2 l0_2.length c0_2) := (blk_cell BK281.out 2).trans rfl; have hcz26_3 : w24.cell? ⟨gb281, 3, none⟩ = some (.bool a0_3) := (blk_cell BK281.out 3).trans rfl; have hfz26_0 := blk_frozen BK281.out 0; have hfz26_1 := blk_frozen BK281.out 1; have hfz26_2 := blk_frozen BK281.out 2; have hfz26_3 := blk_frozen BK281.out 3) | ((with_reducible refine gate_callee (f := 16) rfl ?_); refine goesL_ (some 6) rfl rfl Tryd.func16 (by kernel_rfl) rfl #[.agg #[.int .i64 a0_0, .slice A0_1 l0_1.length c0_1, .slice A0_2 l0_2.length c0_2, .bool a0_3]] rfl (by (try simp only [List.map_toArray, List.map_cons, List.map_nil]); first | done | rfl | (simp only [List.length_drop, List.length_take]; rfl)) ?_; (with_reducible refine (winnowref19_Check.calls a0_0 _ _ l0_1 _ _ l0_2 a0_3 t283 _ ?side1 ?side2 ?side3 ?side4 A3.out).mono ?_); (case side1 => repeat (first | exact (Kd.C_below HR0_1.out HB.out) | (with_reducible refine Kd.C_alloc ?_ _) | (with_reducible refine Kd.C_drewN ?_ _) | (with_reducible refine Kd.C_drew ?_))); (case side2 => exact HC0_1.out); (case side3 => repeat (first | exact (Kd.C_below HR0_2.out HB.out) | (with_reducible refine Kd.C_alloc ?_ _) | (with_reducible refine Kd.C_drewN ?_ _) | (with_reducible refine Kd.C_drew ?_))); (case side4 => exact HC0_2.out); rintro e w27 ⟨rfl, hb⟩; refine ⟨_, rfl, ?_⟩; have n0_ := Aside0.mk (blk_below (g := gb281) (o := .cells #[.int .i64 a0_0, .slice A0_1 l0_1.length c0_1, .slice A0_2 l0_2.length c0_2, .bool a0_3] 24 (0, 0)) (by (with_reducible repeat (first | refine blk_drewN ?_ _ | refine blk_drew ?_ | refine blk_alloc ?_ _)); exact BK281.out) hb); have n1_ := Aside0.mk (blk_below (g := gb282) (o := .cells #[.int .i64 a1_0, .int .i64 a1_1] 29 (0, 0)) (by (with_reducible repeat (first | refine blk_drewN ?_ _ | refine blk_drew ?_ | refine blk_alloc ?_ _)); exact BK282.out) hb); have n2_ := Aside0.mk (below_step (by repeat (first | (with_reducible first | exact HB.out | apply below_alloc | apply pw_below_drewN | apply below_drew1 | refine below_set ?_ GE281.out | refine below_set ?_ GE282.out) | exact HB.out)) hb); clear BK281; clear BK282; clear HB; have BK281 := n0_; have BK282 := n1_; have HB := n2_; clear n0_ n1_ n2_; (try clear hb); (try clear hb2); (try clear hk); (try clear hi)))
    go_ret
    exact ⟨by first | rfl | (simp [errW_none, errW_some] <;> rfl) | (simp [*, errW_none, errW_some] <;> rfl), by repeat (first | (with_reducible first | exact HB.out | apply below_alloc | apply pw_below_drewN | apply below_drew1 | refine below_set ?_ GE281.out | refine below_set ?_ GE282.out) | exact HB.out)⟩

end Go.Proofs.YtponmfnegdlppaaDoor.P

end
section
/- The document's answers are the program's, in plain lists: why nothing can be done with a task. -/
namespace Go.Proofs.YtponmfnegdlppaaDoor.P
open Go.RowKit Go.Proofs.YtponmfnegdlppaaDoorW.PrintWords Go.Proofs.YtponmfnegdlppaaDoorW.PrintLast Go.Proofs.YtponmfnegdlppaaDoorW.PrintMore
set_option linter.unusedVariables false
set_option linter.unusedSimpArgs false

theorem refRefusal (t : Int) (l0 l1 : List S38) (fl : Bool) (k b : Int) : winnowref19_refusal.f t l0 l1 fl k b = some (knownP t l0 l1 fl [⟨k, b⟩]) := by
  unfold winnowref19_refusal.f knownP
  unfold winnowref19_Check.f
  rw [Option.bind_some]
  by_cases h : checkP t l0 l1 fl = 0
  · rw [if_pos h, if_pos h, refThere, Option.bind_some]
    simp only [scanT]
    by_cases g : okT l0.length l1.length ⟨k, b⟩ = true
    · rw [if_pos g, if_pos g]
    · rw [if_neg g, if_neg g]
  · rw [if_neg h, if_neg h]
    have : checkP t l0 l1 fl = 190 := by
      unfold checkP scan0 scan1 finP at h ⊢
      repeat' split at h
      all_goals first | (exact absurd rfl h) | simp_all
    rw [this]
theorem isT_known {t : Int} {l0 l1 : List S38} {fl : Bool} {k b : Int} (h : knownP t l0 l1 fl [⟨k, b⟩] = 0) : isT l0 l1 k b := (known_one h).2
end Go.Proofs.YtponmfnegdlppaaDoor.P

end
section
-- Written by a program of this session (wip/tools/hprint.py, over the kit's printer), not by hand. Lean checks it.
namespace Go.Proofs.YtponmfnegdlppaaDoor.P
open Go.RowKit Go.Proofs.YtponmfnegdlppaaDoorW.PrintWords Go.Proofs.YtponmfnegdlppaaDoorW.PrintLast Go.Proofs.YtponmfnegdlppaaDoorW.PrintMore
attribute [local go_sem] max2_int min2_int max_two min_two max_three min_three max_four min_four
set_option linter.unusedVariables false
set_option linter.unusedSimpArgs false

/-! ### winnowref19_all: function 41 -/
def winnowref19_all.l0 : Nat → List (S38) → Int → Option (Bool)
  | 0, _, _ => none
  | k + 1, x0, x3 => if x3 < (x0.length : Int) then (if 0 ≤ x3 then (if ((rd_T38 x0 x3).f0) = 3 then (winnowref19_all.l0 k x0 (wrap64 (x3 + 1))) else (some false)) else (none)) else (some true)
def winnowref19_all.f (k : Nat) (l0 : List (S38)) : Option (Bool) := winnowref19_all.l0 k l0 0
theorem winnowref19_all.mono_l : ∀ k, (∀ y0 y1, LeO (winnowref19_all.l0 k y0 y1) (winnowref19_all.l0 (k + 1) y0 y1))
  | 0 => fun _ _ r h => by simp [winnowref19_all.l0] at h
  | k + 1 => by
    have ih0 := winnowref19_all.mono_l k
    · intro y0 y1
      unfold winnowref19_all.l0
      repeat' first
      | (with_reducible exact ih0 _ _)
      | (with_reducible exact LeO.refl _)
      | (with_reducible exact LeO.none _)
      | (with_reducible refine LeO.ite ?_ ?_)
      | (with_reducible refine LeO.bind ?_ (fun _ => ?_))
      | exact ih0 _ _
      | exact LeO.none _
      | refine LeO.ite ?_ ?_
      | refine LeO.bind ?_ (fun _ => ?_)
theorem winnowref19_all.mono : ∀ a0 k, LeO (winnowref19_all.f k a0) (winnowref19_all.f (k + 1) a0) := by
  intro a0 k
  have ih0 := winnowref19_all.mono_l k
  unfold winnowref19_all.f
  repeat' first
      | (with_reducible exact ih0 _ _)
      | (with_reducible exact LeO.refl _)
      | (with_reducible exact LeO.none _)
      | (with_reducible refine LeO.ite ?_ ?_)
      | (with_reducible refine LeO.bind ?_ (fun _ => ?_))
      | exact ih0 _ _
      | exact LeO.none _
      | refine LeO.ite ?_ ?_
      | refine LeO.bind ?_ (fun _ => ?_)
set_option maxHeartbeats 8000000 in
set_option maxRecDepth 100000 in
theorem winnowref19_all.calls (k : Nat) (A0 : Option Addr) (c0 : Nat) (l0 : List (S38)) (r : Bool) (w : World) (hr0 : Kd.C k38 w A0 l0.length l0) (hc0 : l0.length ≤ c0) (h : winnowref19_all.f k l0 = some r) :
    Calls Tryd.prog 41 #[.slice A0 l0.length c0] w fun e w' => e = .returned (.bool r) ∧ Drawn0 w w' := by
  have HR0 := Aside0.mk hr0
  have HC0 := Aside0.mk hc0
  clear hr0 hc0
  have H : (winnowref19_all.l0 k l0 0) = some r := h
  clear h
  have H' := Aside0.mk H
  clear H
  go_enter Tryd.func41, Tryd.ntmps41
  go_wp2
  go_loopg [3] k (fun kq v3 w' => ∃ (x3_1 : Int), v3 = .int .i64 x3_1 ∧ Aside0 (winnowref19_all.l0 kq l0 x3_1 = some r) ∧ Aside0 (kq ≤ k) ∧ Drawn0 w w')
  case atStart => exact ⟨(0), (by first | rfl | (simp; done) | (simp [*]; done)), H', ⟨Nat.le_refl _⟩, by repeat (first | exact Drawn0.refl _ | apply Drawn0.step)⟩
  case round =>
    clear H'
    obtain ⟨x3_1, rfl, HA, HK1, ⟨m1, rfl⟩⟩ := hrel
    cases gk with
    | zero => exact absurd HA.out (by simp [winnowref19_all.l0])
    | succ k1 =>
      have H := HA.out
      clear HA
      simp only [winnowref19_all.l0] at H
      by_cases c2 : x3_1 < (l0.length : Int)
      · rw [if_pos c2] at H
        have c2b0 : decide (x3_1 < (l0.length : Int)) = true := decide_eq_true c2
        clear c2
        by_cases c3 : 0 ≤ x3_1
        · rw [if_pos c3] at H
          have c3b0 : decide (0 ≤ x3_1) = true := decide_eq_true c3
          clear c3
          by_cases c4 : ((rd_T38 l0 x3_1).f0) = 3
          · rw [if_pos c4] at H
            have c4b0 : (((rd_T38 l0 x3_1).f0) == 3) = true := beq_iff_eq.mpr c4
            have c4b1 : (((rd_T38 l0 x3_1).f0) != 3) = false := bne_eq_false_iff_eq.mpr c4
            clear c4
            have H' := Aside0.mk H
            clear H
            have p144 : 0 ≤ (x3_1 : Int) := of_decide_eq_true (by first | (with_reducible assumption) | assumption)
            have q144 : x3_1 < (l0.length : Int) := of_decide_eq_true (by first | (with_reducible assumption) | assumption)
            obtain ⟨ad144, e144, hx144_0, hx144_1, hx144_2⟩ := at_T38 HR0.out x3_1 p144 q144
            cases e144
            replace p144 := eq_true p144
            replace q144 := eq_true q144
            go_wp2
            go_roundg k1
            case measure => have := HK1.out; omega
            case rel => exact ⟨(wrap64 (x3_1 + 1)), (by first | rfl | (simp; done) | (simp [*]; done)), H', ⟨by have := HK1.out; omega⟩, by repeat (first | exact Drawn0.refl _ | apply Drawn0.step)⟩
          · rw [if_neg c4] at H
            have c4b0 : (((rd_T38 l0 x3_1).f0) == 3) = false := beq_eq_false_iff_ne.mpr c4
            have c4b1 : (((rd_T38 l0 x3_1).f0) != 3) = true := bne_iff_ne.mpr c4
            obtain rfl := Option.some.inj H
            have p144 : 0 ≤ (x3_1 : Int) := of_decide_eq_true (by first | (with_reducible assumption) | assumption)
            have q144 : x3_1 < (l0.length : Int) := of_decide_eq_true (by first | (with_reducible assumption) | assumption)
            obtain ⟨ad144, e144, hx144_0, hx144_1, hx144_2⟩ := at_T38 HR0.out x3_1 p144 q144
            cases e144
            replace p144 := eq_true p144
            replace q144 := eq_true q144
            go_wp2
            go_ret
            exact ⟨by first | rfl | (simp; done) | (simp [*]; done), by repeat (first | exact Drawn0.refl _ | apply Drawn0.step)⟩
        · rw [if_neg c3] at H
          exact absurd H (by simp)
      · rw [if_neg c2] at H
        have c2b0 : decide (x3_1 < (l0.length : Int)) = false := decide_eq_false c2
        clear c2
        obtain rfl := Option.some.inj H
        go_wp2
        go_ret
        exact ⟨by first | rfl | (simp; done) | (simp [*]; done), by repeat (first | exact Drawn0.refl _ | apply Drawn0.step)⟩

end Go.Proofs.YtponmfnegdlppaaDoor.P

end
section
-- Written by a program of this session (wip/tools/hprint.py, over the kit's printer), not by hand. Lean checks it.
namespace Go.Proofs.YtponmfnegdlppaaDoor.P
open Go.RowKit Go.Proofs.YtponmfnegdlppaaDoorW.PrintWords Go.Proofs.YtponmfnegdlppaaDoorW.PrintLast Go.Proofs.YtponmfnegdlppaaDoorW.PrintMore
attribute [local go_sem] max2_int min2_int max_two min_two max_three min_three max_four min_four
set_option linter.unusedVariables false
set_option linter.unusedSimpArgs false

/-! ### ledger_all: function 40 -/
def ledger_all.l0 : Nat → List (S38) → Int → Int → Option (Bool)
  | 0, _, _, _ => none
  | k + 1, x5, x6, x7 => if x7 < x6 then (if 0 ≤ x7 then (if x7 < (x5.length : Int) then (if ((rd_T38 x5 x7).f0) = 3 then (ledger_all.l0 k x5 x6 (wrap64 (x7 + 1))) else (some false)) else (none)) else (none)) else (some true)
def ledger_all.f (k : Nat) (l0 : List (S38)) : Option (Bool) := ledger_all.l0 k l0 (l0.length : Int) 0
theorem ledger_all.mono_l : ∀ k, (∀ y0 y1 y2, LeO (ledger_all.l0 k y0 y1 y2) (ledger_all.l0 (k + 1) y0 y1 y2))
  | 0 => fun _ _ _ r h => by simp [ledger_all.l0] at h
  | k + 1 => by
    have ih0 := ledger_all.mono_l k
    · intro y0 y1 y2
      unfold ledger_all.l0
      repeat' first
      | (with_reducible exact ih0 _ _ _)
      | (with_reducible exact LeO.refl _)
      | (with_reducible exact LeO.none _)
      | (with_reducible refine LeO.ite ?_ ?_)
      | (with_reducible refine LeO.bind ?_ (fun _ => ?_))
      | exact ih0 _ _ _
      | exact LeO.none _
      | refine LeO.ite ?_ ?_
      | refine LeO.bind ?_ (fun _ => ?_)
theorem ledger_all.mono : ∀ a0 k, LeO (ledger_all.f k a0) (ledger_all.f (k + 1) a0) := by
  intro a0 k
  have ih0 := ledger_all.mono_l k
  unfold ledger_all.f
  repeat' first
      | (with_reducible exact ih0 _ _ _)
      | (with_reducible exact LeO.refl _)
      | (with_reducible exact LeO.none _)
      | (with_reducible refine LeO.ite ?_ ?_)
      | (with_reducible refine LeO.bind ?_ (fun _ => ?_))
      | exact ih0 _ _ _
      | exact LeO.none _
      | refine LeO.ite ?_ ?_
      | refine LeO.bind ?_ (fun _ => ?_)
set_option maxHeartbeats 8000000 in
set_option maxRecDepth 100000 in
theorem ledger_all.calls (k : Nat) (A0 : Option Addr) (c0 : Nat) (l0 : List (S38)) (r : Bool) (w : World) (hr0 : Kd.C k38 w A0 l0.length l0) (hc0 : l0.length ≤ c0) (h : ledger_all.f k l0 = some r) :
    Calls Tryd.prog 40 #[.slice A0 l0.length c0] w fun e w' => e = .returned (.bool r) ∧ Below w.heap.size w w' := by
  have hu38 := Tryd.underlying38
  have HR0 := Aside0.mk hr0
  have HC0 := Aside0.mk hc0
  clear hr0 hc0
  have HB := Aside0.mk (Below.refl w.heap.size w)
  have H : (ledger_all.l0 k l0 (l0.length : Int) 0) = some r := h
  clear h
  have H' := Aside0.mk H
  clear H
  go_enter Tryd.func40, Tryd.ntmps40
  go_wp2
  go_loopg [7] k (fun kq v7 w' => ∃ (x7_1 : Int), v7 = .int .i64 x7_1 ∧ Aside0 (ledger_all.l0 kq l0 (l0.length : Int) x7_1 = some r) ∧ Aside0 (kq ≤ k) ∧ Aside0 (Below w.heap.size w w'))
  case atStart => exact ⟨(0), (by first | rfl | (simp; done) | (simp [*]; done)), H', ⟨Nat.le_refl _⟩, ⟨by repeat (first | (with_reducible first | exact HB.out | apply below_alloc | apply pw_below_drewN | apply below_drew1) | exact HB.out)⟩⟩
  case round =>
    clear H'
    obtain ⟨x7_1, rfl, HA, HK1, HB⟩ := hrel
    cases gk with
    | zero => exact absurd HA.out (by simp [ledger_all.l0])
    | succ k1 =>
      have H := HA.out
      clear HA
      simp only [ledger_all.l0] at H
      by_cases c2 : x7_1 < (l0.length : Int)
      · rw [if_pos c2] at H
        have c2b0 : decide (x7_1 < (l0.length : Int)) = true := decide_eq_true c2
        clear c2
        by_cases c3 : 0 ≤ x7_1
        · rw [if_pos c3] at H
          have c3b0 : decide (0 ≤ x7_1) = true := decide_eq_true c3
          clear c3
          by_cases c4 : x7_1 < (l0.length : Int)
          · rw [if_pos c4] at H
            have c4b0 : decide (x7_1 < (l0.length : Int)) = true := decide_eq_true c4
            clear c4
            by_cases c5 : ((rd_T38 l0 x7_1).f0) = 3
            · rw [if_pos c5] at H
              have c5b0 : (((rd_T38 l0 x7_1).f0) == 3) = true := beq_iff_eq.mpr c5
              have c5b1 : (((rd_T38 l0 x7_1).f0) != 3) = false := bne_eq_false_iff_eq.mpr c5
              clear c5
              have H' := Aside0.mk H
              clear H
              have p119 : 0 ≤ (x7_1 : Int) := of_decide_eq_true (by first | (with_reducible assumption) | assumption)
              have q119 : x7_1 < (l0.length : Int) := of_decide_eq_true (by first | (with_reducible assumption) | assumption)
              obtain ⟨ad119, e119, hx119_0, hx119_1, hx119_2⟩ := at_T38 HR0.out x7_1 p119 q119
              cases e119
              replace hx119_0 := (HB.out.cell (World.block_lt_of_cell? w _ hx119_0)).trans hx119_0
              replace hx119_1 := (HB.out.cell (World.block_lt_of_cell? w _ hx119_1)).trans hx119_1
              replace hx119_2 := (HB.out.cell (World.block_lt_of_cell? w _ hx119_2)).trans hx119_2
              replace p119 := eq_true p119
              replace q119 := eq_true q119
              go_wp2_with (first | ((with_reducible refine gate_dst (N := 4) rfl ?_); refine box_event ?hg (N := 4) ?hd (cs := #[.int .i64 0, .int .i64 0, .int .i64 0]) (t := 38) ?hr ?_; (case hd => rfl); (case hg => rfl); (case hr => first | (go_simp; done) | (go_simp; rfl)); intro gb120 hg w6 hbox hb; have n0_ := Aside0.mk (below_step (by repeat (first | (with_reducible first | exact HB.out | apply below_alloc | apply pw_below_drewN | apply below_drew1) | exact HB.out)) hb); have n1_ := Aside0.mk (hbox); have n2_ := Aside0.mk ((by rw [hg]; exact (below_size (by repeat (first | (with_reducible first | exact HB.out | apply below_alloc | apply pw_below_drewN | apply below_drew1) | exact HB.out))) : w.heap.size ≤ gb120)); have n3_ := Aside0.mk ((by rw [hg]; exact (below_size (by repeat (first | (with_reducible first | exact HB.out | apply below_alloc | apply pw_below_drewN | apply below_drew1) | exact HB.out))) : w.heap.size ≤ gb120)); clear HB; have HB := n0_; have BK120 := n1_; have GW120 := n2_; have GE120 := n3_; clear n0_ n1_ n2_ n3_; clear hb hbox hg; have hcz7_0 : w6.cell? ⟨gb120, 0, none⟩ = some (.int .i64 0) := (blk_cell BK120.out 0).trans rfl; have hcz7_1 : w6.cell? ⟨gb120, 1, none⟩ = some (.int .i64 0) := (blk_cell BK120.out 1).trans rfl; have hcz7_2 : w6.cell? ⟨gb120, 2, none⟩ = some (.int .i64 0) := (blk_cell BK120.out 2).trans rfl; have hfz7_0 := blk_frozen BK120.out 0; have hfz7_1 := blk_frozen BK120.out 1; have hfz7_2 := blk_frozen BK120.out 2))
              go_roundg k1
              case measure => have := HK1.out; omega
              case rel => exact ⟨(wrap64 (x7_1 + 1)), (by first | rfl | (simp; done) | (simp [*]; done)), H', ⟨by have := HK1.out; omega⟩, ⟨by repeat (first | (with_reducible first | exact HB.out | apply below_alloc | apply pw_below_drewN | apply below_drew1 | refine below_set ?_ GE120.out) | exact HB.out)⟩⟩
            · rw [if_neg c5] at H
              have c5b0 : (((rd_T38 l0 x7_1).f0) == 3) = false := beq_eq_false_iff_ne.mpr c5
              have c5b1 : (((rd_T38 l0 x7_1).f0) != 3) = true := bne_iff_ne.mpr c5
              obtain rfl := Option.some.inj H
              have p119 : 0 ≤ (x7_1 : Int) := of_decide_eq_true (by first | (with_reducible assumption) | assumption)
              have q119 : x7_1 < (l0.length : Int) := of_decide_eq_true (by first | (with_reducible assumption) | assumption)
              obtain ⟨ad119, e119, hx119_0, hx119_1, hx119_2⟩ := at_T38 HR0.out x7_1 p119 q119
              cases e119
              replace hx119_0 := (HB.out.cell (World.block_lt_of_cell? w _ hx119_0)).trans hx119_0
              replace hx119_1 := (HB.out.cell (World.block_lt_of_cell? w _ hx119_1)).trans hx119_1
              replace hx119_2 := (HB.out.cell (World.block_lt_of_cell? w _ hx119_2)).trans hx119_2
              replace p119 := eq_true p119
              replace q119 := eq_true q119
              go_wp2_with (first | ((with_reducible refine gate_dst (N := 4) rfl ?_); refine box_event ?hg (N := 4) ?hd (cs := #[.int .i64 0, .int .i64 0, .int .i64 0]) (t := 38) ?hr ?_; (case hd => rfl); (case hg => rfl); (case hr => first | (go_simp; done) | (go_simp; rfl)); intro gb120 hg w8 hbox hb; have n0_ := Aside0.mk (below_step (by repeat (first | (with_reducible first | exact HB.out | apply below_alloc | apply pw_below_drewN | apply below_drew1) | exact HB.out)) hb); have n1_ := Aside0.mk (hbox); have n2_ := Aside0.mk ((by rw [hg]; exact (below_size (by repeat (first | (with_reducible first | exact HB.out | apply below_alloc | apply pw_below_drewN | apply below_drew1) | exact HB.out))) : w.heap.size ≤ gb120)); have n3_ := Aside0.mk ((by rw [hg]; exact (below_size (by repeat (first | (with_reducible first | exact HB.out | apply below_alloc | apply pw_below_drewN | apply below_drew1) | exact HB.out))) : w.heap.size ≤ gb120)); clear HB; have HB := n0_; have BK120 := n1_; have GW120 := n2_; have GE120 := n3_; clear n0_ n1_ n2_ n3_; clear hb hbox hg; have hcz9_0 : w8.cell? ⟨gb120, 0, none⟩ = some (.int .i64 0) := (blk_cell BK120.out 0).trans rfl; have hcz9_1 : w8.cell? ⟨gb120, 1, none⟩ = some (.int .i64 0) := (blk_cell BK120.out 1).trans rfl; have hcz9_2 : w8.cell? ⟨gb120, 2, none⟩ = some (.int .i64 0) := (blk_cell BK120.out 2).trans rfl; have hfz9_0 := blk_frozen BK120.out 0; have hfz9_1 := blk_frozen BK120.out 1; have hfz9_2 := blk_frozen BK120.out 2))
              go_ret
              exact ⟨by first | rfl | (simp [errW_none, errW_some] <;> rfl) | (simp [*, errW_none, errW_some] <;> rfl), by repeat (first | (with_reducible first | exact HB.out | apply below_alloc | apply pw_below_drewN | apply below_drew1 | refine below_set ?_ GE120.out) | exact HB.out)⟩
          · rw [if_neg c4] at H
            exact absurd H (by simp)
        · rw [if_neg c3] at H
          exact absurd H (by simp)
      · rw [if_neg c2] at H
        have c2b0 : decide (x7_1 < (l0.length : Int)) = false := decide_eq_false c2
        clear c2
        obtain rfl := Option.some.inj H
        go_wp2
        go_ret
        exact ⟨by first | rfl | (simp [errW_none, errW_some] <;> rfl) | (simp [*, errW_none, errW_some] <;> rfl), by repeat (first | (with_reducible first | exact HB.out | apply below_alloc | apply pw_below_drewN | apply below_drew1) | exact HB.out)⟩

end Go.Proofs.YtponmfnegdlppaaDoor.P

end
