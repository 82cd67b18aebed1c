/- Several texts laid together (wip/tools/merge2.py): Pf23, Pf25, RefB, HEnds. -/
import Derived.Test.YtponmfnegdlppaaDoorME1
import Derived.Test.YtponmfnegdlppaaDoorME3
import Derived.Test.YtponmfnegdlppaaDoorME2
import Derived.Outline
import Derived.Deep.DeepCutAuto
section
-- Written by a program of this session (wip/tools/hprint.py, over the kit's printer), not by hand. Lean checks it.
namespace Go.Proofs.YtponmfnegdlppaaDoor.P
open Go.RowKit Go.Proofs.YtponmfnegdlppaaDoorW.PrintWords Go.Proofs.YtponmfnegdlppaaDoorW.PrintLast Go.Proofs.YtponmfnegdlppaaDoorW.PrintMore
attribute [local go_sem] max2_int min2_int max_two min_two max_three min_three max_four min_four
set_option linter.unusedVariables false
set_option linter.unusedSimpArgs false

/-! ### winnowref19_Done: function 23 -/
def winnowref19_Done.f (a0_0 : Int) (l0_1 : List (S38)) (l0_2 : List (S38)) (a0_3 : Bool) (a1_0 : Int) (a1_1 : Int) : Option (Int × (List (S38)) × (List (S38)) × Bool × Int) := (winnowref19_ends.f a0_0 l0_1 l0_2 a0_3 a1_0 a1_1).bind fun t324 => (if t324 = 0 then ((winnowref19_at.f a0_0 l0_1 l0_2 a0_3 a1_0 a1_1).bind fun bt325 => ((winnowref19_with.f a0_0 l0_1 l0_2 a0_3 a1_0 a1_1 3 bt325.2.1 bt325.2.2).bind fun bt329 => (some (bt329.1, bt329.2.1, bt329.2.2.1, bt329.2.2.2, 0)))) else (some (0, ([] : List (S38)), ([] : List (S38)), false, t324)))
set_option maxHeartbeats 8000000 in
set_option maxRecDepth 100000 in
theorem winnowref19_Done.calls (a0_0 : Int) (A0_1 : Option Addr) (c0_1 : Nat) (l0_1 : List (S38)) (A0_2 : Option Addr) (c0_2 : Nat) (l0_2 : List (S38)) (a0_3 : Bool) (a1_0 : Int) (a1_1 : Int) (r1 : Int) (r2 : List (S38)) (r3 : List (S38)) (r4 : Bool) (r5 : Int) (w : World) (hr0_1 : Kd.C k38 w A0_1 l0_1.length l0_1) (hc0_1 : l0_1.length ≤ c0_1) (hr0_2 : Kd.C k38 w A0_2 l0_2.length l0_2) (hc0_2 : l0_2.length ≤ c0_2) (h : winnowref19_Done.f a0_0 l0_1 l0_2 a0_3 a1_0 a1_1 = some (r1, r2, r3, r4, r5)) :
    Calls Tryd.prog 23 #[.agg #[.int .i64 a0_0, .slice A0_1 l0_1.length c0_1, .slice A0_2 l0_2.length c0_2, .bool a0_3], .agg #[.int .i64 a1_0, .int .i64 a1_1]] w fun e w' => ∃ v1_ v2_ : Value, e = .returned (.tuple #[.agg #[.int .i64 r1, v1_, v2_, .bool r4], .int .i64 r5]) ∧ Kd.R k38 38 w' w.heap.size (fun k_ => some k_ ≠ (v2_ : Value).ownBlock) v1_ r2 ∧ Kd.R k38 38 w' w.heap.size (fun k_ => some k_ ≠ (v1_ : Value).ownBlock) v2_ r3 ∧ Below w.heap.size w w' := by
  have hu24 := Tryd.underlying24
  have hu29 := Tryd.underlying29
  have hu38 := Tryd.underlying38
  have HR0_1 := Aside0.mk hr0_1
  have HC0_1 := Aside0.mk hc0_1
  clear hr0_1 hc0_1
  have HR0_2 := Aside0.mk hr0_2
  have HC0_2 := Aside0.mk hc0_2
  clear hr0_2 hc0_2
  have HB := Aside0.mk (Below.refl w.heap.size w)
  have H : ((winnowref19_ends.f a0_0 l0_1 l0_2 a0_3 a1_0 a1_1).bind fun t324 => (if t324 = 0 then ((winnowref19_at.f a0_0 l0_1 l0_2 a0_3 a1_0 a1_1).bind fun bt325 => ((winnowref19_with.f a0_0 l0_1 l0_2 a0_3 a1_0 a1_1 3 bt325.2.1 bt325.2.2).bind fun bt329 => (some (bt329.1, bt329.2.1, bt329.2.2.1, bt329.2.2.2, 0)))) else (some (0, ([] : List (S38)), ([] : List (S38)), false, t324)))) = some (r1, r2, r3, r4, r5) := h
  clear h
  replace H := Option.bind_eq_some_iff.mp H
  obtain ⟨t324, A30, H⟩ := H
  replace H : (if t324 = 0 then ((winnowref19_at.f a0_0 l0_1 l0_2 a0_3 a1_0 a1_1).bind fun bt325 => ((winnowref19_with.f a0_0 l0_1 l0_2 a0_3 a1_0 a1_1 3 bt325.2.1 bt325.2.2).bind fun bt329 => (some (bt329.1, bt329.2.1, bt329.2.2.1, bt329.2.2.2, 0)))) else (some (0, ([] : List (S38)), ([] : List (S38)), false, t324))) = some (r1, r2, r3, r4, r5) := H
  have A3 := Aside0.mk A30
  clear A30
  by_cases c4 : t324 = 0
  · rw [if_pos c4] at H
    have c4b0 : (t324 == 0) = true := beq_iff_eq.mpr c4
    have c4b1 : (t324 != 0) = false := bne_eq_false_iff_eq.mpr c4
    clear c4
    replace H := Option.bind_eq_some_iff.mp H
    obtain ⟨⟨t325, t326, t327⟩, A50, H⟩ := H
    replace H : ((winnowref19_with.f a0_0 l0_1 l0_2 a0_3 a1_0 a1_1 3 t326 t327).bind fun bt329 => (some (bt329.1, bt329.2.1, bt329.2.2.1, bt329.2.2.2, 0))) = some (r1, r2, r3, r4, r5) := H
    have A5 := Aside0.mk A50
    clear A50
    replace H := Option.bind_eq_some_iff.mp H
    obtain ⟨⟨t329, t330, t333, t336⟩, A60, H⟩ := H
    replace H : (some (t329, t330, t333, t336, 0)) = some (r1, r2, r3, r4, r5) := H
    have A6 := Aside0.mk A60
    clear A60
    simp only [Option.some.injEq, Prod.mk.injEq] at H
    obtain ⟨rfl, rfl, rfl, rfl, rfl⟩ := H
    go_enter Tryd.func23, Tryd.ntmps23
    go_wp2_with (first | ((with_reducible refine gate_dst (N := 2) rfl ?_); refine box_event ?hg (N := 2) ?hd (cs := #[.int .i64 a0_0, .slice A0_1 l0_1.length c0_1, .slice A0_2 l0_2.length c0_2, .bool a0_3]) (t := 24) ?hr ?_; (case hd => rfl); (case hg => rfl); (case hr => first | (go_simp; done) | (go_simp; rfl)); intro gb321 hg w7 hbox hb; have n0_ := Aside0.mk (below_step (by repeat (first | (with_reducible first | exact HB.out | apply below_alloc | apply pw_below_drewN | apply below_drew1) | exact HB.out)) hb); have n1_ := Aside0.mk (hbox); have n2_ := Aside0.mk ((by rw [hg]; exact (below_size (by repeat (first | (with_reducible first | exact HB.out | apply below_alloc | apply pw_below_drewN | apply below_drew1) | exact HB.out))) : w.heap.size ≤ gb321)); have n3_ := Aside0.mk ((by rw [hg]; exact (below_size (by repeat (first | (with_reducible first | exact HB.out | apply below_alloc | apply pw_below_drewN | apply below_drew1) | exact HB.out))) : w.heap.size ≤ gb321)); clear HB; have HB := n0_; have BK321 := n1_; have GW321 := n2_; have GE321 := n3_; clear n0_ n1_ n2_ n3_; clear hb hbox hg) | ((with_reducible refine gate_dst (N := 3) rfl ?_); refine box_event ?hg (N := 3) ?hd (cs := #[.int .i64 a1_0, .int .i64 a1_1]) (t := 29) ?hr ?_; (case hd => rfl); (case hg => rfl); (case hr => first | (go_simp; done) | (go_simp; rfl)); intro gb322 hg w8 hbox hb; have n0_ := Aside0.mk (blk_below (g := gb321) (o := .cells #[.int .i64 a0_0, .slice A0_1 l0_1.length c0_1, .slice A0_2 l0_2.length c0_2, .bool a0_3] 24 (0, 0)) (by (with_reducible repeat (first | refine blk_drewN ?_ _ | refine blk_drew ?_ | refine blk_alloc ?_ _)); exact BK321.out) hb); have n1_ := Aside0.mk (below_step (by repeat (first | (with_reducible first | exact HB.out | apply below_alloc | apply pw_below_drewN | apply below_drew1 | refine below_set ?_ GE321.out) | exact HB.out)) hb); have n2_ := Aside0.mk (hbox); have n3_ := Aside0.mk ((by rw [hg]; exact (below_size (by repeat (first | (with_reducible first | exact HB.out | apply below_alloc | apply pw_below_drewN | apply below_drew1 | refine below_set ?_ GE321.out) | exact HB.out))) : w.heap.size ≤ gb322)); have n4_ := Aside0.mk ((by rw [hg]; exact (below_size (by repeat (first | (with_reducible first | exact HB.out | apply below_alloc | apply pw_below_drewN | apply below_drew1 | refine below_set ?_ GE321.out) | exact HB.out))) : w.heap.size ≤ gb322)); have n5_ := Aside0.mk ((by rw [hg]; exact Nat.ne_of_lt (blk_lt (g := gb321) (o := .cells #[.int .i64 a0_0, .slice A0_1 l0_1.length c0_1, .slice A0_2 l0_2.length c0_2, .bool a0_3] 24 (0, 0)) (by (with_reducible repeat (first | refine blk_drewN ?_ _ | refine blk_drew ?_ | refine blk_alloc ?_ _)); exact BK321.out)) : gb321 ≠ gb322)); have n6_ := Aside0.mk ((by rw [hg]; exact Nat.ne_of_gt (blk_lt (g := gb321) (o := .cells #[.int .i64 a0_0, .slice A0_1 l0_1.length c0_1, .slice A0_2 l0_2.length c0_2, .bool a0_3] 24 (0, 0)) (by (with_reducible repeat (first | refine blk_drewN ?_ _ | refine blk_drew ?_ | refine blk_alloc ?_ _)); exact BK321.out)) : gb322 ≠ gb321)); clear BK321; clear HB; have BK321 := n0_; have HB := n1_; have BK322 := n2_; have GW322 := n3_; have GE322 := n4_; have NB321_322 := n5_; have NB322_321 := n6_; clear n0_ n1_ n2_ n3_ n4_ n5_ n6_; clear hb hbox hg) | ((with_reducible refine gate_dst (N := 4) rfl ?_); refine box_event ?hg (N := 4) ?hd (cs := #[.int .i64 0, .slice none 0 0, .slice none 0 0, .bool false]) (t := 24) ?hr ?_; (case hd => rfl); (case hg => rfl); (case hr => first | (go_simp; done) | (go_simp; rfl)); intro gb323 hg w9 hbox hb; have n0_ := Aside0.mk (blk_below (g := gb321) (o := .cells #[.int .i64 a0_0, .slice A0_1 l0_1.length c0_1, .slice A0_2 l0_2.length c0_2, .bool a0_3] 24 (0, 0)) (by (with_reducible repeat (first | refine blk_drewN ?_ _ | refine blk_drew ?_ | refine blk_alloc ?_ _)); exact BK321.out) hb); have n1_ := Aside0.mk (blk_below (g := gb322) (o := .cells #[.int .i64 a1_0, .int .i64 a1_1] 29 (0, 0)) (by (with_reducible repeat (first | refine blk_drewN ?_ _ | refine blk_drew ?_ | refine blk_alloc ?_ _)); exact BK322.out) hb); have n2_ := Aside0.mk (below_step (by repeat (first | (with_reducible first | exact HB.out | apply below_alloc | apply pw_below_drewN | apply below_drew1 | refine below_set ?_ GE321.out | refine below_set ?_ GE322.out) | exact HB.out)) hb); have n3_ := Aside0.mk (hbox); have n4_ := Aside0.mk ((by rw [hg]; exact (below_size (by repeat (first | (with_reducible first | exact HB.out | apply below_alloc | apply pw_below_drewN | apply below_drew1 | refine below_set ?_ GE321.out | refine below_set ?_ GE322.out) | exact HB.out))) : w.heap.size ≤ gb323)); have n5_ := Aside0.mk ((by rw [hg]; exact (below_size (by repeat (first | (with_reducible first | exact HB.out | apply below_alloc | apply pw_below_drewN | apply below_drew1 | refine below_set ?_ GE321.out | refine below_set ?_ GE322.out) | exact HB.out))) : w.heap.size ≤ gb323)); have n6_ := Aside0.mk ((by rw [hg]; exact Nat.ne_of_lt (blk_lt (g := gb321) (o := .cells #[.int .i64 a0_0, .slice A0_1 l0_1.length c0_1, .slice A0_2 l0_2.length c0_2, .bool a0_3] 24 (0, 0)) (by (with_reducible repeat (first | refine blk_drewN ?_ _ | refine blk_drew ?_ | refine blk_alloc ?_ _)); exact BK321.out)) : gb321 ≠ gb323)); have n7_ := Aside0.mk ((by rw [hg]; exact Nat.ne_of_gt (blk_lt (g := gb321) (o := .cells #[.int .i64 a0_0, .slice A0_1 l0_1.length c0_1, .slice A0_2 l0_2.length c0_2, .bool a0_3] 24 (0, 0)) (by (with_reducible repeat (first | refine blk_drewN ?_ _ | refine blk_drew ?_ | refine blk_alloc ?_ _)); exact BK321.out)) : gb323 ≠ gb321)); have n8_ := Aside0.mk ((by rw [hg]; exact Nat.ne_of_lt (blk_lt (g := gb322) (o := .cells #[.int .i64 a1_0, .int .i64 a1_1] 29 (0, 0)) (by (with_reducible repeat (first | refine blk_drewN ?_ _ | refine blk_drew ?_ | refine blk_alloc ?_ _)); exact BK322.out)) : gb322 ≠ gb323)); have n9_ := Aside0.mk ((by rw [hg]; exact Nat.ne_of_gt (blk_lt (g := gb322) (o := .cells #[.int .i64 a1_0, .int .i64 a1_1] 29 (0, 0)) (by (with_reducible repeat (first | refine blk_drewN ?_ _ | refine blk_drew ?_ | refine blk_alloc ?_ _)); exact BK322.out)) : gb323 ≠ gb322)); clear BK321; clear BK322; clear HB; have BK321 := n0_; have BK322 := n1_; have HB := n2_; have BK323 := n3_; have GW323 := n4_; have GE323 := n5_; have NB321_323 := n6_; have NB323_321 := n7_; have NB322_323 := n8_; have NB323_322 := n9_; clear n0_ n1_ n2_ n3_ n4_ n5_ n6_ n7_ n8_ n9_; clear hb hbox hg; have hnb10 := NB321_322.out; have hnc10 := NB322_321.out; have hnb11 := NB321_323.out; have hnc11 := NB323_321.out; have hcz12_0 : w9.cell? ⟨gb321, 0, none⟩ = some (.int .i64 a0_0) := (blk_cell BK321.out 0).trans rfl; have hcz12_1 : w9.cell? ⟨gb321, 1, none⟩ = some (.slice A0_1 l0_1.length c0_1) := (blk_cell BK321.out 1).trans rfl; have hcz12_2 : w9.cell? ⟨gb321, 2, none⟩ = some (.slice A0_2 l0_2.length c0_2) := (blk_cell BK321.out 2).trans rfl; have hcz12_3 : w9.cell? ⟨gb321, 3, none⟩ = some (.bool a0_3) := (blk_cell BK321.out 3).trans rfl; have hfz12_0 := blk_frozen BK321.out 0; have hfz12_1 := blk_frozen BK321.out 1; have hfz12_2 := blk_frozen BK321.out 2; have hfz12_3 := blk_frozen BK321.out 3; have hnb13 := NB322_323.out; have hnc13 := NB323_322.out; have hcz14_0 : w9.cell? ⟨gb322, 0, none⟩ = some (.int .i64 a1_0) := (blk_cell BK322.out 0).trans rfl; have hcz14_1 : w9.cell? ⟨gb322, 1, none⟩ = some (.int .i64 a1_1) := (blk_cell BK322.out 1).trans rfl; have hfz14_0 := blk_frozen BK322.out 0; have hfz14_1 := blk_frozen BK322.out 1) | ((with_reducible refine gate_callee (f := 47) rfl ?_); refine goesL_ (some 10) rfl rfl Tryd.func47 (by kernel_rfl) rfl #[.agg #[.int .i64 a0_0, .slice A0_1 l0_1.length c0_1, .slice A0_2 l0_2.length c0_2, .bool a0_3], .agg #[.int .i64 a1_0, .int .i64 a1_1]] rfl (by (try simp only [List.map_toArray, List.map_cons, List.map_nil]); first | done | rfl | (simp only [List.length_drop, List.length_take]; rfl)) ?_; (with_reducible refine (winnowref19_ends.calls a0_0 _ _ l0_1 _ _ l0_2 a0_3 a1_0 a1_1 t324 _ ?side1 ?side2 ?side3 ?side4 A3.out).mono ?_); (case side1 => repeat (first | exact (Kd.C_below HR0_1.out HB.out) | (with_reducible refine Kd.C_alloc ?_ _) | (with_reducible refine Kd.C_drewN ?_ _) | (with_reducible refine Kd.C_drew ?_))); (case side2 => exact HC0_1.out); (case side3 => repeat (first | exact (Kd.C_below HR0_2.out HB.out) | (with_reducible refine Kd.C_alloc ?_ _) | (with_reducible refine Kd.C_drewN ?_ _) | (with_reducible refine Kd.C_drew ?_))); (case side4 => exact HC0_2.out); rintro e w15 ⟨rfl, hb⟩; refine ⟨_, rfl, ?_⟩; have n0_ := Aside0.mk (blk_below (g := gb321) (o := .cells #[.int .i64 a0_0, .slice A0_1 l0_1.length c0_1, .slice A0_2 l0_2.length c0_2, .bool a0_3] 24 (0, 0)) (by (with_reducible repeat (first | refine blk_drewN ?_ _ | refine blk_drew ?_ | refine blk_alloc ?_ _)); exact BK321.out) hb); have n1_ := Aside0.mk (blk_below (g := gb322) (o := .cells #[.int .i64 a1_0, .int .i64 a1_1] 29 (0, 0)) (by (with_reducible repeat (first | refine blk_drewN ?_ _ | refine blk_drew ?_ | refine blk_alloc ?_ _)); exact BK322.out) hb); have n2_ := Aside0.mk (blk_below (g := gb323) (o := .cells #[.int .i64 0, .slice none 0 0, .slice none 0 0, .bool false] 24 (0, 0)) (by (with_reducible repeat (first | refine blk_drewN ?_ _ | refine blk_drew ?_ | refine blk_alloc ?_ _)); exact BK323.out) hb); have n3_ := Aside0.mk (below_step (by repeat (first | (with_reducible first | exact HB.out | apply below_alloc | apply pw_below_drewN | apply below_drew1 | refine below_set ?_ GE321.out | refine below_set ?_ GE322.out | refine below_set ?_ GE323.out) | exact HB.out)) hb); clear BK321; clear BK322; clear BK323; clear HB; have BK321 := n0_; have BK322 := n1_; have BK323 := n2_; have HB := n3_; clear n0_ n1_ n2_ n3_; (try clear hb); (try clear hb2); (try clear hk); (try clear hi); have hcz16_0 : w15.cell? ⟨gb321, 0, none⟩ = some (.int .i64 a0_0) := (blk_cell BK321.out 0).trans rfl; have hcz16_1 : w15.cell? ⟨gb321, 1, none⟩ = some (.slice A0_1 l0_1.length c0_1) := (blk_cell BK321.out 1).trans rfl; have hcz16_2 : w15.cell? ⟨gb321, 2, none⟩ = some (.slice A0_2 l0_2.length c0_2) := (blk_cell BK321.out 2).trans rfl; have hcz16_3 : w15.cell? ⟨gb321, 3, none⟩ = some (.bool a0_3) := (blk_cell BK321.out 3).trans rfl; have hfz16_0 := blk_frozen BK321.out 0; have hfz16_1 := blk_frozen BK321.out 1; have hfz16_2 := blk_frozen BK321.out 2; have hfz16_3 := blk_frozen BK321.out 3; have hcz17_0 : w15.cell? ⟨gb322, 0, none⟩ = some (.int .i64 a1_0) := (blk_cell BK322.out 0).trans rfl; have hcz17_1 : w15.cell? ⟨gb322, 1, none⟩ = some (.int .i64 a1_1) := (blk_cell BK322.out 1).trans rfl; have hfz17_0 := blk_frozen BK322.out 0; have hfz17_1 := blk_frozen BK322.out 1) | ((with_reducible refine gate_callee (f := 48) rfl ?_); refine goesL_ (some 17) rfl rfl Tryd.func48 (by kernel_rfl) rfl #[.agg #[.int .i64 a0_0, .slice A0_1 l0_1.length c0_1, .slice A0_2 l0_2.length c0_2, .bool a0_3], .agg #[.int .i64 a1_0, .int .i64 a1_1]] rfl (by (try simp only [List.map_toArray, List.map_cons, List.map_nil]); first | done | rfl | (simp only [List.length_drop, List.length_take]; rfl)) ?_; (with_reducible refine (winnowref19_at.calls a0_0 _ _ l0_1 _ _ l0_2 a0_3 a1_0 a1_1 t325 t326 t327 _ ?side1 ?side2 ?side3 ?side4 A5.out).mono ?_); (case side1 => repeat (first | exact (Kd.C_below HR0_1.out HB.out) | (with_reducible refine Kd.C_alloc ?_ _) | (with_reducible refine Kd.C_drewN ?_ _) | (with_reducible refine Kd.C_drew ?_))); (case side2 => exact HC0_1.out); (case side3 => repeat (first | exact (Kd.C_below HR0_2.out HB.out) | (with_reducible refine Kd.C_alloc ?_ _) | (with_reducible refine Kd.C_drewN ?_ _) | (with_reducible refine Kd.C_drew ?_))); (case side4 => exact HC0_2.out); rintro e w18 ⟨rfl, hb⟩; refine ⟨_, rfl, ?_⟩; have n0_ := Aside0.mk (blk_below (g := gb321) (o := .cells #[.int .i64 a0_0, .slice A0_1 l0_1.length c0_1, .slice A0_2 l0_2.length c0_2, .bool a0_3] 24 (0, 0)) (by (with_reducible repeat (first | refine blk_drewN ?_ _ | refine blk_drew ?_ | refine blk_alloc ?_ _)); exact BK321.out) hb); have n1_ := Aside0.mk (blk_below (g := gb322) (o := .cells #[.int .i64 a1_0, .int .i64 a1_1] 29 (0, 0)) (by (with_reducible repeat (first | refine blk_drewN ?_ _ | refine blk_drew ?_ | refine blk_alloc ?_ _)); exact BK322.out) hb); have n2_ := Aside0.mk (blk_below (g := gb323) (o := .cells #[.int .i64 0, .slice none 0 0, .slice none 0 0, .bool false] 24 (0, 0)) (by (with_reducible repeat (first | refine blk_drewN ?_ _ | refine blk_drew ?_ | refine blk_alloc ?_ _)); exact BK323.out) hb); have n3_ := Aside0.mk (below_step (by repeat (first | (with_reducible first | exact HB.out | apply below_alloc | apply pw_below_drewN | apply below_drew1 | refine below_set ?_ GE321.out | refine below_set ?_ GE322.out | refine below_set ?_ GE323.out) | exact HB.out)) hb); clear BK321; clear BK322; clear BK323; clear HB; have BK321 := n0_; have BK322 := n1_; have BK323 := n2_; have HB := n3_; clear n0_ n1_ n2_ n3_; (try clear hb); (try clear hb2); (try clear hk); (try clear hi)) | ((with_reducible refine gate_dst (N := 7) rfl ?_); refine box_event ?hg (N := 7) ?hd (cs := #[.int .i64 0, .int .i64 0, .int .i64 0]) (t := 38) ?hr ?_; (case hd => rfl); (case hg => rfl); (case hr => first | (go_simp; done) | (go_simp; rfl)); intro gb328 hg w19 hbox hb; have n0_ := Aside0.mk (blk_below (g := gb321) (o := .cells #[.int .i64 a0_0, .slice A0_1 l0_1.length c0_1, .slice A0_2 l0_2.length c0_2, .bool a0_3] 24 (0, 0)) (by (with_reducible repeat (first | refine blk_drewN ?_ _ | refine blk_drew ?_ | refine blk_alloc ?_ _)); exact BK321.out) hb); have n1_ := Aside0.mk (blk_below (g := gb322) (o := .cells #[.int .i64 a1_0, .int .i64 a1_1] 29 (0, 0)) (by (with_reducible repeat (first | refine blk_drewN ?_ _ | refine blk_drew ?_ | refine blk_alloc ?_ _)); exact BK322.out) hb); have n2_ := Aside0.mk (blk_below (g := gb323) (o := .cells #[.int .i64 0, .slice none 0 0, .slice none 0 0, .bool false] 24 (0, 0)) (by (with_reducible repeat (first | refine blk_drewN ?_ _ | refine blk_drew ?_ | refine blk_alloc ?_ _)); exact BK323.out) hb); have n3_ := Aside0.mk (below_step (by repeat (first | (with_reducible first | exact HB.out | apply below_alloc | apply pw_below_drewN | apply below_drew1 | refine below_set ?_ GE321.out | refine below_set ?_ GE322.out | refine below_set ?_ GE323.out) | exact HB.out)) hb); have n4_ := Aside0.mk (hbox); have n5_ := Aside0.mk ((by rw [hg]; exact (below_size (by repeat (first | (with_reducible first | exact HB.out | apply below_alloc | apply pw_below_drewN | apply below_drew1 | refine below_set ?_ GE321.out | refine below_set ?_ GE322.out | refine below_set ?_ GE323.out) | exact HB.out))) : w.heap.size ≤ gb328)); have n6_ := Aside0.mk ((by rw [hg]; exact (below_size (by repeat (first | (with_reducible first | exact HB.out | apply below_alloc | apply pw_below_drewN | apply below_drew1 | refine below_set ?_ GE321.out | refine below_set ?_ GE322.out | refine below_set ?_ GE323.out) | exact HB.out))) : w.heap.size ≤ gb328)); have n7_ := Aside0.mk ((by rw [hg]; exact Nat.ne_of_lt (blk_lt (g := gb321) (o := .cells #[.int .i64 a0_0, .slice A0_1 l0_1.length c0_1, .slice A0_2 l0_2.length c0_2, .bool a0_3] 24 (0, 0)) (by (with_reducible repeat (first | refine blk_drewN ?_ _ | refine blk_drew ?_ | refine blk_alloc ?_ _)); exact BK321.out)) : gb321 ≠ gb328)); have n8_ := Aside0.mk ((by rw [hg]; exact Nat.ne_of_gt (blk_lt (g := gb321) (o := .cells #[.int .i64 a0_0, .slice A0_1 l0_1.length c0_1, .slice A0_2 l0_2.length c0_2, .bool a0_3] 24 (0, 0)) (by (with_reducible repeat (first | refine blk_drewN ?_ _ | refine blk_drew ?_ | refine blk_alloc ?_ _)); exact BK321.out)) : gb328 ≠ gb321)); have n9_ := Aside0.mk ((by rw [hg]; exact Nat.ne_of_lt (blk_lt (g := gb322) (o := .cells #[.int .i64 a1_0, .int .i64 a1_1] 29 (0, 0)) (by (with_reducible repeat (first | refine blk_drewN ?_ _ | refine blk_drew ?_ | refine blk_alloc ?_ _)); exact BK322.out)) : gb322 ≠ gb328)); have n10_ := Aside0.mk ((by rw [hg]; exact Nat.ne_of_gt (blk_lt (g := gb322) (o := .cells #[.int .i64 a1_0, .int .i64 a1_1] 29 (0, 0)) (by (with_reducible repeat (first | refine blk_drewN ?_ _ | refine blk_drew ?_ | refine blk_alloc ?_ _)); exact BK322.out)) : gb328 ≠ gb322)); have n11_ := Aside0.mk ((by rw [hg]; exact Nat.ne_of_lt (blk_lt (g := gb323) (o := .cells #[.int .i64 0, .slice none 0 0, .slice none 0 0, .bool false] 24 (0, 0)) (by (with_reducible repeat (first | refine blk_drewN ?_ _ | refine blk_drew ?_ | refine blk_alloc ?_ _)); exact BK323.out)) : gb323 ≠ gb328)); have n12_ := Aside0.mk ((by rw [hg]; exact Nat.ne_of_gt (blk_lt (g := gb323) (o := .cells #[.int .i64 0, .slice none 0 0, .slice none 0 0, .bool false] 24 (0, 0)) (by (with_reducible repeat (first | refine blk_drewN ?_ _ | refine blk_drew ?_ | refine blk_alloc ?_ _)); exact BK323.out)) : gb328 ≠ gb323)); clear BK321; clear BK322; clear BK323; clear HB; have BK321 := n0_; have BK322 := n1_; have BK323 := n2_; have HB := n3_; have BK328 := n4_; have GW328 := n5_; have GE328 := n6_; have NB321_328 := n7_; have NB328_321 := n8_; have NB322_328 := n9_; have NB328_322 := n10_; have NB323_328 := n11_; have NB328_323 := n12_; clear n0_ n1_ n2_ n3_ n4_ n5_ n6_ n7_ n8_ n9_ n10_ n11_ n12_; clear hb hbox hg; have hnb20 := NB328_321.out; have hnc20 := NB321_328.out; have hnb21 := NB328_322.out; have hnc21 := NB322_328.out; have hnb22 := NB328_323.out; have hnc22 := NB323_328.out; have hcz23_0 : w19.cell? ⟨gb328, 0, none⟩ = some (.int .i64 0) := (blk_cell BK328.out 0).trans rfl; have hcz23_1 : w19.cell? ⟨gb328, 1, none⟩ = some (.int .i64 0) := (blk_cell BK328.out 1).trans rfl; have hcz23_2 : w19.cell? ⟨gb328, 2, none⟩ = some (.int .i64 0) := (blk_cell BK328.out 2).trans rfl; have hfz23_0 := blk_frozen BK328.out 0; have hfz23_1 := blk_frozen BK328.out 1; have hfz23_2 := blk_frozen BK328.out 2; have hcz24_0 : w19.cell? ⟨gb321, 0, none⟩ = some (.int .i64 a0_0) := (blk_cell BK321.out 0).trans rfl; have hcz24_1 : w19.cell? ⟨gb321, 1, none⟩ = some (.slice A0_1 l0_1.length c0_1) := (blk_cell BK321.out 1).trans rfl; have hcz24_2 : w19.cell? ⟨gb321, 2, none⟩ = some (.slice A0_2 l0_2.length c0_2) := (blk_cell BK321.out 2).trans rfl; have hcz24_3 : w19.cell? ⟨gb321, 3, none⟩ = some (.bool a0_3) := (blk_cell BK321.out 3).trans rfl; have hfz24_0 := blk_frozen BK321.out 0; have hfz24_1 := blk_frozen BK321.out 1; have hfz24_2 := blk_frozen BK321.out 2; have hfz24_3 := blk_frozen BK321.out 3; have hcz25_0 : w19.cell? ⟨gb322, 0, none⟩ = some (.int .i64 a1_0) := (blk_cell BK322.out 0).trans rfl; have hcz25_1 : w19.cell? ⟨gb322, 1, none⟩ = some (.int .i64 a1_1) := (blk_cell BK322.out 1).trans rfl; have hfz25_0 := blk_frozen BK322.out 0; have hfz25_1 := blk_frozen BK322.out 1) | ((with_reducible refine gate_callee (f := 49) rfl ?_); refine goesL_ (some 22) rfl rfl Tryd.func49 (by kernel_rfl) rfl #[.agg #[.int .i64 a0_0, .slice A0_1 l0_1.length c0_1, .slice A0_2 l0_2.length c0_2, .bool a0_3], .agg #[.int .i64 a1_0, .int .i64 a1_1], .agg #[.int .i64 3, .int .i64 t326, .int .i64 t327]] rfl (by (try simp only [List.map_toArray, List.map_cons, List.map_nil]); first | done | rfl | (simp only [List.length_drop, List.length_take]; rfl)) ?_; (with_reducible refine (winnowref19_with.calls a0_0 _ _ l0_1 _ _ l0_2 a0_3 a1_0 a1_1 3 t326 t327 t329 t330 t333 t336 _ ?side1 ?side2 ?side3 ?side4 A6.out).mono ?_); (case side1 => exact Kd.C_below HR0_1.out (by repeat (first | (with_reducible first | exact HB.out | apply below_alloc | apply pw_below_drewN | apply below_drew1 | refine below_set ?_ GE321.out | refine below_set ?_ GE322.out | refine below_set ?_ GE323.out | refine below_set ?_ GE328.out) | exact HB.out))); (case side2 => exact HC0_1.out); (case side3 => exact Kd.C_below HR0_2.out (by repeat (first | (with_reducible first | exact HB.out | apply below_alloc | apply pw_below_drewN | apply below_drew1 | refine below_set ?_ GE321.out | refine below_set ?_ GE322.out | refine below_set ?_ GE323.out | refine below_set ?_ GE328.out) | exact HB.out))); (case side4 => exact HC0_2.out); rintro e w26 ⟨v331, v334, rfl, ho0, ho1, hb⟩; refine ⟨_, rfl, ?_⟩; have n0_ := Aside0.mk (Kd.R_lower (Kd.R_newB ho0 (g := gb328) (o := .cells #[.int .i64 3, .int .i64 t326, .int .i64 t327] 38 (0, 0)) (by (with_reducible repeat (first | refine blk_drewN ?_ _ | refine blk_drew ?_ | refine blk_alloc ?_ _)); refine blk_put (cs := #[.int .i64 t325, .int .i64 t326, .int .i64 t327]) ?_ 0 _ rfl; (with_reducible repeat (first | refine blk_drewN ?_ _ | refine blk_drew ?_ | refine blk_alloc ?_ _)); refine blk_put (cs := #[.int .i64 t325, .int .i64 t326, .int .i64 0]) ?_ 2 _ rfl; (with_reducible repeat (first | refine blk_drewN ?_ _ | refine blk_drew ?_ | refine blk_alloc ?_ _)); refine blk_put (cs := #[.int .i64 t325, .int .i64 0, .int .i64 0]) ?_ 1 _ rfl; (with_reducible repeat (first | refine blk_drewN ?_ _ | refine blk_drew ?_ | refine blk_alloc ?_ _)); refine blk_put (cs := #[.int .i64 0, .int .i64 0, .int .i64 0]) ?_ 0 _ rfl; (with_reducible repeat (first | refine blk_drewN ?_ _ | refine blk_drew ?_ | refine blk_alloc ?_ _)); exact BK328.out)) (below_size (by repeat (first | (with_reducible first | exact HB.out | apply below_alloc | apply pw_below_drewN | apply below_drew1 | refine below_set ?_ GE321.out | refine below_set ?_ GE322.out | refine below_set ?_ GE323.out | refine below_set ?_ GE328.out) | exact HB.out)))); have n1_ := Aside0.mk (Kd.R_lower (Kd.R_newB ho1 (g := gb328) (o := .cells #[.int .i64 3, .int .i64 t326, .int .i64 t327] 38 (0, 0)) (by (with_reducible repeat (first | refine blk_drewN ?_ _ | refine blk_drew ?_ | refine blk_alloc ?_ _)); refine blk_put (cs := #[.int .i64 t325, .int .i64 t326, .int .i64 t327]) ?_ 0 _ rfl; (with_reducible repeat (first | refine blk_drewN ?_ _ | refine blk_drew ?_ | refine blk_alloc ?_ _)); refine blk_put (cs := #[.int .i64 t325, .int .i64 t326, .int .i64 0]) ?_ 2 _ rfl; (with_reducible repeat (first | refine blk_drewN ?_ _ | refine blk_drew ?_ | refine blk_alloc ?_ _)); refine blk_put (cs := #[.int .i64 t325, .int .i64 0, .int .i64 0]) ?_ 1 _ rfl; (with_reducible repeat (first | refine blk_drewN ?_ _ | refine blk_drew ?_ | refine blk_alloc ?_ _)); refine blk_put (cs := #[.int .i64 0, .int .i64 0, .int .i64 0]) ?_ 0 _ rfl; (with_reducible repeat (first | refine blk_drewN ?_ _ | refine blk_drew ?_ | refine blk_alloc ?_ _)); exact BK328.out)) (below_size (by repeat (first | (with_reducible first | exact HB.out | apply below_alloc | apply pw_below_drewN | apply below_drew1 | refine below_set ?_ GE321.out | refine below_set ?_ GE322.out | refine below_set ?_ GE323.out | refine below_set ?_ GE328.out) | exact HB.out)))); have n2_ := Aside0.mk (blk_below (g := gb321) (o := .cells #[.int .i64 a0_0, .slice A0_1 l0_1.length c0_1, .slice A0_2 l0_2.length c0_2, .bool a0_3] 24 (0, 0)) (by (with_reducible repeat (first | refine blk_drewN ?_ _ | refine blk_drew ?_ | refine blk_alloc ?_ _)); refine blk_far ?_ NB321_328.out _; (with_reducible repeat (first | refine blk_drewN ?_ _ | refine blk_drew ?_ | refine blk_alloc ?_ _)); refine blk_far ?_ NB321_328.out _; (with_reducible repeat (first | refine blk_drewN ?_ _ | refine blk_drew ?_ | refine blk_alloc ?_ _)); refine blk_far ?_ NB321_328.out _; (with_reducible repeat (first | refine blk_drewN ?_ _ | refine blk_drew ?_ | refine blk_alloc ?_ _)); refine blk_far ?_ NB321_328.out _; (with_reducible repeat (first | refine blk_drewN ?_ _ | refine blk_drew ?_ | refine blk_alloc ?_ _)); exact BK321.out) hb); have n3_ := Aside0.mk (blk_below (g := gb322) (o := .cells #[.int .i64 a1_0, .int .i64 a1_1] 29 (0, 0)) (by (with_reducible repeat (first | refine blk_drewN ?_ _ | refine blk_drew ?_ | refine blk_alloc ?_ _)); refine blk_far ?_ NB322_328.out _; (with_reducible repeat (first | refine blk_drewN ?_ _ | refine blk_drew ?_ | refine blk_alloc ?_ _)); refine blk_far ?_ NB322_328.out _; (with_reducible repeat (first | refine blk_drewN ?_ _ | refine blk_drew ?_ | refine blk_alloc ?_ _)); refine blk_far ?_ NB322_328.out _; (with_reducible repeat (first | refine blk_drewN ?_ _ | refine blk_drew ?_ | refine blk_alloc ?_ _)); refine blk_far ?_ NB322_328.out _; (with_reducible repeat (first | refine blk_drewN ?_ _ | refine blk_drew ?_ | refine blk_alloc ?_ _)); exact BK322.out) hb); have n4_ := Aside0.mk (blk_below (g := gb323) (o := .cells #[.int .i64 0, .slice none 0 0, .slice none 0 0, .bool false] 24 (0, 0)) (by (with_reducible repeat (first | refine blk_drewN ?_ _ | refine blk_drew ?_ | refine blk_alloc ?_ _)); refine blk_far ?_ NB323_328.out _; (with_reducible repeat (first | refine blk_drewN ?_ _ | refine blk_drew ?_ | refine blk_alloc ?_ _)); refine blk_far ?_ NB323_328.out _; (with_reducible repeat (first | refine blk_drewN ?_ _ | refine blk_drew ?_ | refine blk_alloc ?_ _)); refine blk_far ?_ NB323_328.out _; (with_reducible repeat (first | refine blk_drewN ?_ _ | refine blk_drew ?_ | refine blk_alloc ?_ _)); refine blk_far ?_ NB323_328.out _; (with_reducible repeat (first | refine blk_drewN ?_ _ | refine blk_drew ?_ | refine blk_alloc ?_ _)); exact BK323.out) hb); have n5_ := Aside0.mk (blk_below (g := gb328) (o := .cells #[.int .i64 3, .int .i64 t326, .int .i64 t327] 38 (0, 0)) (by (with_reducible repeat (first | refine blk_drewN ?_ _ | refine blk_drew ?_ | refine blk_alloc ?_ _)); refine blk_put (cs := #[.int .i64 t325, .int .i64 t326, .int .i64 t327]) ?_ 0 _ rfl; (with_reducible repeat (first | refine blk_drewN ?_ _ | refine blk_drew ?_ | refine blk_alloc ?_ _)); refine blk_put (cs := #[.int .i64 t325, .int .i64 t326, .int .i64 0]) ?_ 2 _ rfl; (with_reducible repeat (first | refine blk_drewN ?_ _ | refine blk_drew ?_ | refine blk_alloc ?_ _)); refine blk_put (cs := #[.int .i64 t325, .int .i64 0, .int .i64 0]) ?_ 1 _ rfl; (with_reducible repeat (first | refine blk_drewN ?_ _ | refine blk_drew ?_ | refine blk_alloc ?_ _)); refine blk_put (cs := #[.int .i64 0, .int .i64 0, .int .i64 0]) ?_ 0 _ rfl; (with_reducible repeat (first | refine blk_drewN ?_ _ | refine blk_drew ?_ | refine blk_alloc ?_ _)); exact BK328.out) hb); have n6_ := Aside0.mk (below_step (by repeat (first | (with_reducible first | exact HB.out | apply below_alloc | apply pw_below_drewN | apply below_drew1 | refine below_set ?_ GE321.out | refine below_set ?_ GE322.out | refine below_set ?_ GE323.out | refine below_set ?_ GE328.out) | exact HB.out)) hb); clear BK321; clear BK322; clear BK323; clear BK328; clear HB; have HO332 := n0_; have HO335 := n1_; have BK321 := n2_; have BK322 := n3_; have BK323 := n4_; have BK328 := n5_; have HB := n6_; clear n0_ n1_ n2_ n3_ n4_ n5_ n6_; (try clear hb); (try clear hb2); (try clear hk); (try clear hi); (try clear ho0); (try clear ho1); have hcz27_0 : w26.cell? ⟨gb323, 0, none⟩ = some (.int .i64 0) := (blk_cell BK323.out 0).trans rfl; have hcz27_1 : w26.cell? ⟨gb323, 1, none⟩ = some (.slice none 0 0) := (blk_cell BK323.out 1).trans rfl; have hcz27_2 : w26.cell? ⟨gb323, 2, none⟩ = some (.slice none 0 0) := (blk_cell BK323.out 2).trans rfl; have hcz27_3 : w26.cell? ⟨gb323, 3, none⟩ = some (.bool false) := (blk_cell BK323.out 3).trans rfl; have hfz27_0 := blk_frozen BK323.out 0; have hfz27_1 := blk_frozen BK323.out 1; have hfz27_2 := blk_frozen BK323.out 2; have hfz27_3 := blk_frozen BK323.out 3; obtain ⟨Ao28, co28, eo28⟩ := Kd.R_slice HO332.out; subst eo28; obtain ⟨Ao29, co29, eo29⟩ := Kd.R_slice HO335.out; subst eo29))
    refine bodyPost_ret (results_ct rfl _ _ gb323 24 #[.int .i64 t329, .slice Ao28 t330.length co28, .slice Ao29 t333.length co29, .bool t336] (0, 0) _ rfl (by (with_reducible repeat (first | refine blk_drewN ?_ _ | refine blk_drew ?_ | refine blk_alloc ?_ _)); refine blk_put (cs := #[.int .i64 t329, .slice Ao28 t330.length co28, .slice Ao29 t333.length co29, .bool false]) ?_ 3 _ rfl; (with_reducible repeat (first | refine blk_drewN ?_ _ | refine blk_drew ?_ | refine blk_alloc ?_ _)); refine blk_put (cs := #[.int .i64 t329, .slice Ao28 t330.length co28, .slice none 0 0, .bool false]) ?_ 2 _ rfl; (with_reducible repeat (first | refine blk_drewN ?_ _ | refine blk_drew ?_ | refine blk_alloc ?_ _)); refine blk_put (cs := #[.int .i64 t329, .slice none 0 0, .slice none 0 0, .bool false]) ?_ 1 _ rfl; (with_reducible repeat (first | refine blk_drewN ?_ _ | refine blk_drew ?_ | refine blk_alloc ?_ _)); refine blk_put (cs := #[.int .i64 0, .slice none 0 0, .slice none 0 0, .bool false]) ?_ 0 _ rfl; (with_reducible repeat (first | refine blk_drewN ?_ _ | refine blk_drew ?_ | refine blk_alloc ?_ _)); exact BK323.out) Tryd.underlying24 rfl (by kernel_rfl)) rfl ?_
    exact ⟨_, _, by first | rfl | (simp [errW_none, errW_some] <;> rfl) | (simp [*, errW_none, errW_some] <;> rfl), by (with_reducible repeat (first | apply Kd.R_alloc | apply Kd.R_drewN | apply Kd.R_drew)); exact Kd.R_mono (Kd.R_far (p := ⟨gb323, 3, none⟩) (Kd.R_far (p := ⟨gb323, 2, none⟩) (Kd.R_far (p := ⟨gb323, 1, none⟩) (Kd.R_far (p := ⟨gb323, 0, none⟩) (Kd.R_types HO332.out BK323.out (by decide)) (fun _ hk => hk.2) (.int .i64 t329)) (fun _ hk => hk.2) (.slice Ao28 t330.length co28)) (fun _ hk => hk.2) (.slice Ao29 t333.length co29)) (fun _ hk => hk.2) (.bool t336)) (fun _ hk => hk.1.1), by (with_reducible repeat (first | apply Kd.R_alloc | apply Kd.R_drewN | apply Kd.R_drew)); exact Kd.R_mono (Kd.R_far (p := ⟨gb323, 3, none⟩) (Kd.R_far (p := ⟨gb323, 2, none⟩) (Kd.R_far (p := ⟨gb323, 1, none⟩) (Kd.R_far (p := ⟨gb323, 0, none⟩) (Kd.R_types HO335.out BK323.out (by decide)) (fun _ hk => hk.2) (.int .i64 t329)) (fun _ hk => hk.2) (.slice Ao28 t330.length co28)) (fun _ hk => hk.2) (.slice Ao29 t333.length co29)) (fun _ hk => hk.2) (.bool t336)) (fun _ hk => hk.1.1), by repeat (first | (with_reducible first | exact HB.out | apply below_alloc | apply pw_below_drewN | apply below_drew1 | refine below_set ?_ GE321.out | refine below_set ?_ GE322.out | refine below_set ?_ GE323.out | refine below_set ?_ GE328.out) | exact HB.out)⟩
  · rw [if_neg c4] at H
    have c4b0 : (t324 == 0) = false := beq_eq_false_iff_ne.mpr c4
    have c4b1 : (t324 != 0) = true := bne_iff_ne.mpr c4
    simp only [Option.some.injEq, Prod.mk.injEq] at H
    obtain ⟨rfl, rfl, rfl, rfl, rfl⟩ := H
    go_enter Tryd.func23, Tryd.ntmps23
    go_wp2_with (first | ((with_reducible refine gate_dst (N := 2) rfl ?_); refine box_event ?hg (N := 2) ?hd (cs := #[.int .i64 a0_0, .slice A0_1 l0_1.length c0_1, .slice A0_2 l0_2.length c0_2, .bool a0_3]) (t := 24) ?hr ?_; (case hd => rfl); (case hg => rfl); (case hr => first | (go_simp; done) | (go_simp; rfl)); intro gb321 hg w30 hbox hb; have n0_ := Aside0.mk (below_step (by repeat (first | (with_reducible first | exact HB.out | apply below_alloc | apply pw_below_drewN | apply below_drew1) | exact HB.out)) hb); have n1_ := Aside0.mk (hbox); have n2_ := Aside0.mk ((by rw [hg]; exact (below_size (by repeat (first | (with_reducible first | exact HB.out | apply below_alloc | apply pw_below_drewN | apply below_drew1) | exact HB.out))) : w.heap.size ≤ gb321)); have n3_ := Aside0.mk ((by rw [hg]; exact (below_size (by repeat (first | (with_reducible first | exact HB.out | apply below_alloc | apply pw_below_drewN | apply below_drew1) | exact HB.out))) : w.heap.size ≤ gb321)); clear HB; have HB := n0_; have BK321 := n1_; have GW321 := n2_; have GE321 := n3_; clear n0_ n1_ n2_ n3_; clear hb hbox hg) | ((with_reducible refine gate_dst (N := 3) rfl ?_); refine box_event ?hg (N := 3) ?hd (cs := #[.int .i64 a1_0, .int .i64 a1_1]) (t := 29) ?hr ?_; (case hd => rfl); (case hg => rfl); (case hr => first | (go_simp; done) | (go_simp; rfl)); intro gb322 hg w31 hbox hb; have n0_ := Aside0.mk (blk_below (g := gb321) (o := .cells #[.int .i64 a0_0, .slice A0_1 l0_1.length c0_1, .slice A0_2 l0_2.length c0_2, .bool a0_3] 24 (0, 0)) (by (with_reducible repeat (first | refine blk_drewN ?_ _ | refine blk_drew ?_ | refine blk_alloc ?_ _)); exact BK321.out) hb); have n1_ := Aside0.mk (below_step (by repeat (first | (with_reducible first | exact HB.out | apply below_alloc | apply pw_below_drewN | apply below_drew1 | refine below_set ?_ GE321.out) | exact HB.out)) hb); have n2_ := Aside0.mk (hbox); have n3_ := Aside0.mk ((by rw [hg]; exact (below_size (by repeat (first | (with_reducible first | exact HB.out | apply below_alloc | apply pw_below_drewN | apply below_drew1 | refine below_set ?_ GE321.out) | exact HB.out))) : w.heap.size ≤ gb322)); have n4_ := Aside0.mk ((by rw [hg]; exact (below_size (by repeat (first | (with_reducible first | exact HB.out | apply below_alloc | apply pw_below_drewN | apply below_drew1 | refine below_set ?_ GE321.out) | exact HB.out))) : w.heap.size ≤ gb322)); have n5_ := Aside0.mk ((by rw [hg]; exact Nat.ne_of_lt (blk_lt (g := gb321) (o := .cells #[.int .i64 a0_0, .slice A0_1 l0_1.length c0_1, .slice A0_2 l0_2.length c0_2, .bool a0_3] 24 (0, 0)) (by (with_reducible repeat (first | refine blk_drewN ?_ _ | refine blk_drew ?_ | refine blk_alloc ?_ _)); exact BK321.out)) : gb321 ≠ gb322)); have n6_ := Aside0.mk ((by rw [hg]; exact Nat.ne_of_gt (blk_lt (g := gb321) (o := .cells #[.int .i64 a0_0, .slice A0_1 l0_1.length c0_1, .slice A0_2 l0_2.length c0_2, .bool a0_3] 24 (0, 0)) (by (with_reducible repeat (first | refine blk_drewN ?_ _ | refine blk_drew ?_ | refine blk_alloc ?_ _)); exact BK321.out)) : gb322 ≠ gb321)); clear BK321; clear HB; have BK321 := n0_; have HB := n1_; have BK322 := n2_; have GW322 := n3_; have GE322 := n4_; have NB321_322 := n5_; have NB322_321 := n6_; clear n0_ n1_ n2_ n3_ n4_ n5_ n6_; clear hb hbox hg) | ((with_reducible refine gate_dst (N := 4) rfl ?_); refine box_event ?hg (N := 4) ?hd (cs := #[.int .i64 0, .slice none 0 0, .slice none 0 0, .bool false]) (t := 24) ?hr ?_; (case hd => rfl); (case hg => rfl); (case hr => first | (go_simp; done) | (go_simp; rfl)); intro gb323 hg w32 hbox hb; have n0_ := Aside0.mk (blk_below (g := gb321) (o := .cells #[.int .i64 a0_0, .slice A0_1 l0_1.length c0_1, .slice A0_2 l0_2.length c0_2, .bool a0_3] 24 (0, 0)) (by (with_reducible repeat (first | refine blk_drewN ?_ _ | refine blk_drew ?_ | refine blk_alloc ?_ _)); exact BK321.out) hb); have n1_ := Aside0.mk (blk_below (g := gb322) (o := .cells #[.int .i64 a1_0, .int .i64 a1_1] 29 (0, 0)) (by (with_reducible repeat (first | refine blk_drewN ?_ _ | refine blk_drew ?_ | refine blk_alloc ?_ _)); exact BK322.out) hb); have n2_ := Aside0.mk (below_step (by repeat (first | (with_reducible first | exact HB.out | apply below_alloc | apply pw_below_drewN | apply below_drew1 | refine below_set ?_ GE321.out | refine below_set ?_ GE322.out) | exact HB.out)) hb); have n3_ := Aside0.mk (hbox); have n4_ := Aside0.mk ((by rw [hg]; exact (below_size (by repeat (first | (with_reducible first | exact HB.out | apply below_alloc | apply pw_below_drewN | apply below_drew1 | refine below_set ?_ GE321.out | refine below_set ?_ GE322.out) | exact HB.out))) : w.heap.size ≤ gb323)); have n5_ := Aside0.mk ((by rw [hg]; exact (below_size (by repeat (first | (with_reducible first | exact HB.out | apply below_alloc | apply pw_below_drewN | apply below_drew1 | refine below_set ?_ GE321.out | refine below_set ?_ GE322.out) | exact HB.out))) : w.heap.size ≤ gb323)); have n6_ := Aside0.mk ((by rw [hg]; exact Nat.ne_of_lt (blk_lt (g := gb321) (o := .cells #[.int .i64 a0_0, .slice A0_1 l0_1.length c0_1, .slice A0_2 l0_2.length c0_2, .bool a0_3] 24 (0, 0)) (by (with_reducible repeat (first | refine blk_drewN ?_ _ | refine blk_drew ?_ | refine blk_alloc ?_ _)); exact BK321.out)) : gb321 ≠ gb323)); have n7_ := Aside0.mk ((by rw [hg]; exact Nat.ne_of_gt (blk_lt (g := gb321) (o := .cells #[.int .i64 a0_0, .slice A0_1 l0_1.length c0_1, .slice A0_2 l0_2.length c0_2, .bool a0_3] 24 (0, 0)) (by (with_reducible repeat (first | refine blk_drewN ?_ _ | refine blk_drew ?_ | refine blk_alloc ?_ _)); exact BK321.out)) : gb323 ≠ gb321)); have n8_ := Aside0.mk ((by rw [hg]; exact Nat.ne_of_lt (blk_lt (g := gb322) (o := .cells #[.int .i64 a1_0, .int .i64 a1_1] 29 (0, 0)) (by (with_reducible repeat (first | refine blk_drewN ?_ _ | refine blk_drew ?_ | refine blk_alloc ?_ _)); exact BK322.out)) : gb322 ≠ gb323)); have n9_ := Aside0.mk ((by rw [hg]; exact Nat.ne_of_gt (blk_lt (g := gb322) (o := .cells #[.int .i64 a1_0, .int .i64 a1_1] 29 (0, 0)) (by (with_reducible repeat (first | refine blk_drewN ?_ _ | refine blk_drew ?_ | refine blk_alloc ?_ _)); exact BK322.out)) : gb323 ≠ gb322)); clear BK321; clear BK322; clear HB; have BK321 := n0_; have BK322 := n1_; have HB := n2_; have BK323 := n3_; have GW323 := n4_; have GE323 := n5_; have NB321_323 := n6_; have NB323_321 := n7_; have NB322_323 := n8_; have NB323_322 := n9_; clear n0_ n1_ n2_ n3_ n4_ n5_ n6_ n7_ n8_ n9_; clear hb hbox hg; have hnb33 := NB321_322.out; have hnc33 := NB322_321.out; have hnb34 := NB321_323.out; have hnc34 := NB323_321.out; have hcz35_0 : w32.cell? ⟨gb321, 0, none⟩ = some (.int .i64 a0_0) := (blk_cell BK321.out 0).trans rfl; have hcz35_1 : w32.cell? ⟨gb321, 1, none⟩ = some (.slice A0_1 l0_1.length c0_1) := (blk_cell BK321.out 1).trans rfl; have hcz35_2 : w32.cell? ⟨gb321, 2, none⟩ = some (.slice A0_2 l0_2.length c0_2) := (blk_cell BK321.out 2).trans rfl; have hcz35_3 : w32.cell? ⟨gb321, 3, none⟩ = some (.bool a0_3) := (blk_cell BK321.out 3).trans rfl; have hfz35_0 := blk_frozen BK321.out 0; have hfz35_1 := blk_frozen BK321.out 1; have hfz35_2 := blk_frozen BK321.out 2; have hfz35_3 := blk_frozen BK321.out 3; have hnb36 := NB322_323.out; have hnc36 := NB323_322.out; have hcz37_0 : w32.cell? ⟨gb322, 0, none⟩ = some (.int .i64 a1_0) := (blk_cell BK322.out 0).trans rfl; have hcz37_1 : w32.cell? ⟨gb322, 1, none⟩ = some (.int .i64 a1_1) := (blk_cell BK322.out 1).trans rfl; have hfz37_0 := blk_frozen BK322.out 0; have hfz37_1 := blk_frozen BK322.out 1) | ((with_reducible refine gate_callee (f := 47) rfl ?_); refine goesL_ (some 10) rfl rfl Tryd.func47 (by kernel_rfl) rfl #[.agg #[.int .i64 a0_0, .slice A0_1 l0_1.length c0_1, .slice A0_2 l0_2.length c0_2, .bool a0_3], .agg #[.int .i64 a1_0, .int .i64 a1_1]] rfl (by (try simp only [List.map_toArray, List.map_cons, List.map_nil]); first | done | rfl | (simp only [List.length_drop, List.length_take]; rfl)) ?_; (with_reducible refine (winnowref19_ends.calls a0_0 _ _ l0_1 _ _ l0_2 a0_3 a1_0 a1_1 t324 _ ?side1 ?side2 ?side3 ?side4 A3.out).mono ?_); (case side1 => repeat (first | exact (Kd.C_below HR0_1.out HB.out) | (with_reducible refine Kd.C_alloc ?_ _) | (with_reducible refine Kd.C_drewN ?_ _) | (with_reducible refine Kd.C_drew ?_))); (case side2 => exact HC0_1.out); (case side3 => repeat (first | exact (Kd.C_below HR0_2.out HB.out) | (with_reducible refine Kd.C_alloc ?_ _) | (with_reducible refine Kd.C_drewN ?_ _) | (with_reducible refine Kd.C_drew ?_))); (case side4 => exact HC0_2.out); rintro e w38 ⟨rfl, hb⟩; refine ⟨_, rfl, ?_⟩; have n0_ := Aside0.mk (blk_below (g := gb321) (o := .cells #[.int .i64 a0_0, .slice A0_1 l0_1.length c0_1, .slice A0_2 l0_2.length c0_2, .bool a0_3] 24 (0, 0)) (by (with_reducible repeat (first | refine blk_drewN ?_ _ | refine blk_drew ?_ | refine blk_alloc ?_ _)); exact BK321.out) hb); have n1_ := Aside0.mk (blk_below (g := gb322) (o := .cells #[.int .i64 a1_0, .int .i64 a1_1] 29 (0, 0)) (by (with_reducible repeat (first | refine blk_drewN ?_ _ | refine blk_drew ?_ | refine blk_alloc ?_ _)); exact BK322.out) hb); have n2_ := Aside0.mk (blk_below (g := gb323) (o := .cells #[.int .i64 0, .slice none 0 0, .slice none 0 0, .bool false] 24 (0, 0)) (by (with_reducible repeat (first | refine blk_drewN ?_ _ | refine blk_drew ?_ | refine blk_alloc ?_ _)); exact BK323.out) hb); have n3_ := Aside0.mk (below_step (by repeat (first | (with_reducible first | exact HB.out | apply below_alloc | apply pw_below_drewN | apply below_drew1 | refine below_set ?_ GE321.out | refine below_set ?_ GE322.out | refine below_set ?_ GE323.out) | exact HB.out)) hb); clear BK321; clear BK322; clear BK323; clear HB; have BK321 := n0_; have BK322 := n1_; have BK323 := n2_; have HB := n3_; clear n0_ n1_ n2_ n3_; (try clear hb); (try clear hb2); (try clear hk); (try clear hi); have hcz39_0 : w38.cell? ⟨gb323, 0, none⟩ = some (.int .i64 0) := (blk_cell BK323.out 0).trans rfl; have hcz39_1 : w38.cell? ⟨gb323, 1, none⟩ = some (.slice none 0 0) := (blk_cell BK323.out 1).trans rfl; have hcz39_2 : w38.cell? ⟨gb323, 2, none⟩ = some (.slice none 0 0) := (blk_cell BK323.out 2).trans rfl; have hcz39_3 : w38.cell? ⟨gb323, 3, none⟩ = some (.bool false) := (blk_cell BK323.out 3).trans rfl; have hfz39_0 := blk_frozen BK323.out 0; have hfz39_1 := blk_frozen BK323.out 1; have hfz39_2 := blk_frozen BK323.out 2; have hfz39_3 := blk_frozen BK323.out 3))
    refine bodyPost_ret (results_ct rfl _ _ gb323 24 #[.int .i64 0, .slice none 0 0, .slice none 0 0, .bool false] (0, 0) _ rfl (by (with_reducible repeat (first | refine blk_drewN ?_ _ | refine blk_drew ?_ | refine blk_alloc ?_ _)); refine blk_put (cs := #[.int .i64 0, .slice none 0 0, .slice none 0 0, .bool false]) ?_ 3 _ rfl; (with_reducible repeat (first | refine blk_drewN ?_ _ | refine blk_drew ?_ | refine blk_alloc ?_ _)); refine blk_put (cs := #[.int .i64 0, .slice none 0 0, .slice none 0 0, .bool false]) ?_ 2 _ rfl; (with_reducible repeat (first | refine blk_drewN ?_ _ | refine blk_drew ?_ | refine blk_alloc ?_ _)); refine blk_put (cs := #[.int .i64 0, .slice none 0 0, .slice none 0 0, .bool false]) ?_ 1 _ rfl; (with_reducible repeat (first | refine blk_drewN ?_ _ | refine blk_drew ?_ | refine blk_alloc ?_ _)); refine blk_put (cs := #[.int .i64 0, .slice none 0 0, .slice none 0 0, .bool false]) ?_ 0 _ rfl; (with_reducible repeat (first | refine blk_drewN ?_ _ | refine blk_drew ?_ | refine blk_alloc ?_ _)); exact BK323.out) Tryd.underlying24 rfl (by kernel_rfl)) rfl ?_
    exact ⟨_, _, by first | rfl | (simp [errW_none, errW_some] <;> rfl) | (simp [*, errW_none, errW_some] <;> rfl), by first | exact Kd.R_nil _ _ _ _ _ | exact Kd.N_nil _ _ _ _ _ | exact Kd.V_nil _ _ _ _ _ | exact Kd.Q_nil _ _ _ _ _ | exact Kd.S_nil _ _ _ _ _, by first | exact Kd.R_nil _ _ _ _ _ | exact Kd.N_nil _ _ _ _ _ | exact Kd.V_nil _ _ _ _ _ | exact Kd.Q_nil _ _ _ _ _ | exact Kd.S_nil _ _ _ _ _, by repeat (first | (with_reducible first | exact HB.out | apply below_alloc | apply pw_below_drewN | apply below_drew1 | refine below_set ?_ GE321.out | refine below_set ?_ GE322.out | refine below_set ?_ GE323.out) | exact HB.out)⟩

end Go.Proofs.YtponmfnegdlppaaDoor.P

end
section
-- Written by a program of this session (wip/tools/hprint.py, over the kit's printer), not by hand. Lean checks it.
namespace Go.Proofs.YtponmfnegdlppaaDoor.P
open Go.RowKit Go.Proofs.YtponmfnegdlppaaDoorW.PrintWords Go.Proofs.YtponmfnegdlppaaDoorW.PrintLast Go.Proofs.YtponmfnegdlppaaDoorW.PrintMore
attribute [local go_sem] max2_int min2_int max_two min_two max_three min_three max_four min_four
set_option linter.unusedVariables false
set_option linter.unusedSimpArgs false

/-! ### winnowref19_Died: function 25 -/
def winnowref19_Died.f (a0_0 : Int) (l0_1 : List (S38)) (l0_2 : List (S38)) (a0_3 : Bool) (a1_0 : Int) (a1_1 : Int) : Option (Int × (List (S38)) × (List (S38)) × Bool × Int) := (winnowref19_ends.f a0_0 l0_1 l0_2 a0_3 a1_0 a1_1).bind fun t340 => (if t340 = 0 then ((winnowref19_charged.f a0_0 l0_1 l0_2 a0_3 a1_0 a1_1).bind fun bt341 => (some (bt341.1, bt341.2.1, bt341.2.2.1, bt341.2.2.2, 0))) else (some (0, ([] : List (S38)), ([] : List (S38)), false, t340)))
set_option maxHeartbeats 8000000 in
set_option maxRecDepth 100000 in
theorem winnowref19_Died.calls (a0_0 : Int) (A0_1 : Option Addr) (c0_1 : Nat) (l0_1 : List (S38)) (A0_2 : Option Addr) (c0_2 : Nat) (l0_2 : List (S38)) (a0_3 : Bool) (a1_0 : Int) (a1_1 : Int) (r1 : Int) (r2 : List (S38)) (r3 : List (S38)) (r4 : Bool) (r5 : Int) (w : World) (hr0_1 : Kd.C k38 w A0_1 l0_1.length l0_1) (hc0_1 : l0_1.length ≤ c0_1) (hr0_2 : Kd.C k38 w A0_2 l0_2.length l0_2) (hc0_2 : l0_2.length ≤ c0_2) (h : winnowref19_Died.f a0_0 l0_1 l0_2 a0_3 a1_0 a1_1 = some (r1, r2, r3, r4, r5)) :
    Calls Tryd.prog 25 #[.agg #[.int .i64 a0_0, .slice A0_1 l0_1.length c0_1, .slice A0_2 l0_2.length c0_2, .bool a0_3], .agg #[.int .i64 a1_0, .int .i64 a1_1]] w fun e w' => ∃ v1_ v2_ : Value, e = .returned (.tuple #[.agg #[.int .i64 r1, v1_, v2_, .bool r4], .int .i64 r5]) ∧ Kd.R k38 38 w' w.heap.size (fun k_ => some k_ ≠ (v2_ : Value).ownBlock) v1_ r2 ∧ Kd.R k38 38 w' w.heap.size (fun k_ => some k_ ≠ (v1_ : Value).ownBlock) v2_ r3 ∧ Below w.heap.size w w' := by
  have hu24 := Tryd.underlying24
  have hu29 := Tryd.underlying29
  have HR0_1 := Aside0.mk hr0_1
  have HC0_1 := Aside0.mk hc0_1
  clear hr0_1 hc0_1
  have HR0_2 := Aside0.mk hr0_2
  have HC0_2 := Aside0.mk hc0_2
  clear hr0_2 hc0_2
  have HB := Aside0.mk (Below.refl w.heap.size w)
  have H : ((winnowref19_ends.f a0_0 l0_1 l0_2 a0_3 a1_0 a1_1).bind fun t340 => (if t340 = 0 then ((winnowref19_charged.f a0_0 l0_1 l0_2 a0_3 a1_0 a1_1).bind fun bt341 => (some (bt341.1, bt341.2.1, bt341.2.2.1, bt341.2.2.2, 0))) else (some (0, ([] : List (S38)), ([] : List (S38)), false, t340)))) = some (r1, r2, r3, r4, r5) := h
  clear h
  replace H := Option.bind_eq_some_iff.mp H
  obtain ⟨t340, A30, H⟩ := H
  replace H : (if t340 = 0 then ((winnowref19_charged.f a0_0 l0_1 l0_2 a0_3 a1_0 a1_1).bind fun bt341 => (some (bt341.1, bt341.2.1, bt341.2.2.1, bt341.2.2.2, 0))) else (some (0, ([] : List (S38)), ([] : List (S38)), false, t340))) = some (r1, r2, r3, r4, r5) := H
  have A3 := Aside0.mk A30
  clear A30
  by_cases c4 : t340 = 0
  · rw [if_pos c4] at H
    have c4b0 : (t340 == 0) = true := beq_iff_eq.mpr c4
    have c4b1 : (t340 != 0) = false := bne_eq_false_iff_eq.mpr c4
    clear c4
    replace H := Option.bind_eq_some_iff.mp H
    obtain ⟨⟨t341, t342, t345, t348⟩, A50, H⟩ := H
    replace H : (some (t341, t342, t345, t348, 0)) = some (r1, r2, r3, r4, r5) := H
    have A5 := Aside0.mk A50
    clear A50
    simp only [Option.some.injEq, Prod.mk.injEq] at H
    obtain ⟨rfl, rfl, rfl, rfl, rfl⟩ := H
    go_enter Tryd.func25, Tryd.ntmps25
    go_wp2_with (first | ((with_reducible refine gate_dst (N := 2) rfl ?_); refine box_event ?hg (N := 2) ?hd (cs := #[.int .i64 a0_0, .slice A0_1 l0_1.length c0_1, .slice A0_2 l0_2.length c0_2, .bool a0_3]) (t := 24) ?hr ?_; (case hd => rfl); (case hg => rfl); (case hr => first | (go_simp; done) | (go_simp; rfl)); intro gb337 hg w6 hbox hb; have n0_ := Aside0.mk (below_step (by repeat (first | (with_reducible first | exact HB.out | apply below_alloc | apply pw_below_drewN | apply below_drew1) | exact HB.out)) hb); have n1_ := Aside0.mk (hbox); have n2_ := Aside0.mk ((by rw [hg]; exact (below_size (by repeat (first | (with_reducible first | exact HB.out | apply below_alloc | apply pw_below_drewN | apply below_drew1) | exact HB.out))) : w.heap.size ≤ gb337)); have n3_ := Aside0.mk ((by rw [hg]; exact (below_size (by repeat (first | (with_reducible first | exact HB.out | apply below_alloc | apply pw_below_drewN | apply below_drew1) | exact HB.out))) : w.heap.size ≤ gb337)); clear HB; have HB := n0_; have BK337 := n1_; have GW337 := n2_; have GE337 := n3_; clear n0_ n1_ n2_ n3_; clear hb hbox hg) | ((with_reducible refine gate_dst (N := 3) rfl ?_); refine box_event ?hg (N := 3) ?hd (cs := #[.int .i64 a1_0, .int .i64 a1_1]) (t := 29) ?hr ?_; (case hd => rfl); (case hg => rfl); (case hr => first | (go_simp; done) | (go_simp; rfl)); intro gb338 hg w7 hbox hb; have n0_ := Aside0.mk (blk_below (g := gb337) (o := .cells #[.int .i64 a0_0, .slice A0_1 l0_1.length c0_1, .slice A0_2 l0_2.length c0_2, .bool a0_3] 24 (0, 0)) (by (with_reducible repeat (first | refine blk_drewN ?_ _ | refine blk_drew ?_ | refine blk_alloc ?_ _)); exact BK337.out) hb); have n1_ := Aside0.mk (below_step (by repeat (first | (with_reducible first | exact HB.out | apply below_alloc | apply pw_below_drewN | apply below_drew1 | refine below_set ?_ GE337.out) | exact HB.out)) hb); have n2_ := Aside0.mk (hbox); have n3_ := Aside0.mk ((by rw [hg]; exact (below_size (by repeat (first | (with_reducible first | exact HB.out | apply below_alloc | apply pw_below_drewN | apply below_drew1 | refine below_set ?_ GE337.out) | exact HB.out))) : w.heap.size ≤ gb338)); have n4_ := Aside0.mk ((by rw [hg]; exact (below_size (by repeat (first | (with_reducible first | exact HB.out | apply below_alloc | apply pw_below_drewN | apply below_drew1 | refine below_set ?_ GE337.out) | exact HB.out))) : w.heap.size ≤ gb338)); have n5_ := Aside0.mk ((by rw [hg]; exact Nat.ne_of_lt (blk_lt (g := gb337) (o := .cells #[.int .i64 a0_0, .slice A0_1 l0_1.length c0_1, .slice A0_2 l0_2.length c0_2, .bool a0_3] 24 (0, 0)) (by (with_reducible repeat (first | refine blk_drewN ?_ _ | refine blk_drew ?_ | refine blk_alloc ?_ _)); exact BK337.out)) : gb337 ≠ gb338)); have n6_ := Aside0.mk ((by rw [hg]; exact Nat.ne_of_gt (blk_lt (g := gb337) (o := .cells #[.int .i64 a0_0, .slice A0_1 l0_1.length c0_1, .slice A0_2 l0_2.length c0_2, .bool a0_3] 24 (0, 0)) (by (with_reducible repeat (first | refine blk_drewN ?_ _ | refine blk_drew ?_ | refine blk_alloc ?_ _)); exact BK337.out)) : gb338 ≠ gb337)); clear BK337; clear HB; have BK337 := n0_; have HB := n1_; have BK338 := n2_; have GW338 := n3_; have GE338 := n4_; have NB337_338 := n5_; have NB338_337 := n6_; clear n0_ n1_ n2_ n3_ n4_ n5_ n6_; clear hb hbox hg) | ((with_reducible refine gate_dst (N := 4) rfl ?_); refine box_event ?hg (N := 4) ?hd (cs := #[.int .i64 0, .slice none 0 0, .slice none 0 0, .bool false]) (t := 24) ?hr ?_; (case hd => rfl); (case hg => rfl); (case hr => first | (go_simp; done) | (go_simp; rfl)); intro gb339 hg w8 hbox hb; have n0_ := Aside0.mk (blk_below (g := gb337) (o := .cells #[.int .i64 a0_0, .slice A0_1 l0_1.length c0_1, .slice A0_2 l0_2.length c0_2, .bool a0_3] 24 (0, 0)) (by (with_reducible repeat (first | refine blk_drewN ?_ _ | refine blk_drew ?_ | refine blk_alloc ?_ _)); exact BK337.out) hb); have n1_ := Aside0.mk (blk_below (g := gb338) (o := .cells #[.int .i64 a1_0, .int .i64 a1_1] 29 (0, 0)) (by (with_reducible repeat (first | refine blk_drewN ?_ _ | refine blk_drew ?_ | refine blk_alloc ?_ _)); exact BK338.out) hb); have n2_ := Aside0.mk (below_step (by repeat (first | (with_reducible first | exact HB.out | apply below_alloc | apply pw_below_drewN | apply below_drew1 | refine below_set ?_ GE337.out | refine below_set ?_ GE338.out) | exact HB.out)) hb); have n3_ := Aside0.mk (hbox); have n4_ := Aside0.mk ((by rw [hg]; exact (below_size (by repeat (first | (with_reducible first | exact HB.out | apply below_alloc | apply pw_below_drewN | apply below_drew1 | refine below_set ?_ GE337.out | refine below_set ?_ GE338.out) | exact HB.out))) : w.heap.size ≤ gb339)); have n5_ := Aside0.mk ((by rw [hg]; exact (below_size (by repeat (first | (with_reducible first | exact HB.out | apply below_alloc | apply pw_below_drewN | apply below_drew1 | refine below_set ?_ GE337.out | refine below_set ?_ GE338.out) | exact HB.out))) : w.heap.size ≤ gb339)); have n6_ := Aside0.mk ((by rw [hg]; exact Nat.ne_of_lt (blk_lt (g := gb337) (o := .cells #[.int .i64 a0_0, .slice A0_1 l0_1.length c0_1, .slice A0_2 l0_2.length c0_2, .bool a0_3] 24 (0, 0)) (by (with_reducible repeat (first | refine blk_drewN ?_ _ | refine blk_drew ?_ | refine blk_alloc ?_ _)); exact BK337.out)) : gb337 ≠ gb339)); have n7_ := Aside0.mk ((by rw [hg]; exact Nat.ne_of_gt (blk_lt (g := gb337) (o := .cells #[.int .i64 a0_0, .slice A0_1 l0_1.length c0_1, .slice A0_2 l0_2.length c0_2, .bool a0_3] 24 (0, 0)) (by (with_reducible repeat (first | refine blk_drewN ?_ _ | refine blk_drew ?_ | refine blk_alloc ?_ _)); exact BK337.out)) : gb339 ≠ gb337)); have n8_ := Aside0.mk ((by rw [hg]; exact Nat.ne_of_lt (blk_lt (g := gb338) (o := .cells #[.int .i64 a1_0, .int .i64 a1_1] 29 (0, 0)) (by (with_reducible repeat (first | refine blk_drewN ?_ _ | refine blk_drew ?_ | refine blk_alloc ?_ _)); exact BK338.out)) : gb338 ≠ gb339)); have n9_ := Aside0.mk ((by rw [hg]; exact Nat.ne_of_gt (blk_lt (g := gb338) (o := .cells #[.int .i64 a1_0, .int .i64 a1_1] 29 (0, 0)) (by (with_reducible repeat (first | refine blk_drewN ?_ _ | refine blk_drew ?_ | refine blk_alloc ?_ _)); exact BK338.out)) : gb339 ≠ gb338)); clear BK337; clear BK338; clear HB; have BK337 := n0_; have BK338 := n1_; have HB := n2_; have BK339 := n3_; have GW339 := n4_; have GE339 := n5_; have NB337_339 := n6_; have NB339_337 := n7_; have NB338_339 := n8_; have NB339_338 := n9_; clear n0_ n1_ n2_ n3_ n4_ n5_ n6_ n7_ n8_ n9_; clear hb hbox hg; have hnb9 := NB337_338.out; have hnc9 := NB338_337.out; have hnb10 := NB337_339.out; have hnc10 := NB339_337.out; have hcz11_0 : w8.cell? ⟨gb337, 0, none⟩ = some (.int .i64 a0_0) := (blk_cell BK337.out 0).trans rfl; have hcz11_1 : w8.cell? ⟨gb337, 1, none⟩ = some (.slice A0_1 l0_1.length c0_1) := (blk_cell BK337.out 1).trans rfl; have hcz11_2 : w8.cell? ⟨gb337, 2, none⟩ = some (.slice A0_2 l0_2.length c0_2) := (blk_cell BK337.out 2).trans rfl; have hcz11_3 : w8.cell? ⟨gb337, 3, none⟩ = some (.bool a0_3) := (blk_cell BK337.out 3).trans rfl; have hfz11_0 := blk_frozen BK337.out 0; have hfz11_1 := blk_frozen BK337.out 1; have hfz11_2 := blk_frozen BK337.out 2; have hfz11_3 := blk_frozen BK337.out 3; have hnb12 := NB338_339.out; have hnc12 := NB339_338.out; have hcz13_0 : w8.cell? ⟨gb338, 0, none⟩ = some (.int .i64 a1_0) := (blk_cell BK338.out 0).trans rfl; have hcz13_1 : w8.cell? ⟨gb338, 1, none⟩ = some (.int .i64 a1_1) := (blk_cell BK338.out 1).trans rfl; have hfz13_0 := blk_frozen BK338.out 0; have hfz13_1 := blk_frozen BK338.out 1) | ((with_reducible refine gate_callee (f := 47) rfl ?_); refine goesL_ (some 9) rfl rfl Tryd.func47 (by kernel_rfl) rfl #[.agg #[.int .i64 a0_0, .slice A0_1 l0_1.length c0_1, .slice A0_2 l0_2.length c0_2, .bool a0_3], .agg #[.int .i64 a1_0, .int .i64 a1_1]] rfl (by (try simp only [List.map_toArray, List.map_cons, List.map_nil]); first | done | rfl | (simp only [List.length_drop, List.length_take]; rfl)) ?_; (with_reducible refine (winnowref19_ends.calls a0_0 _ _ l0_1 _ _ l0_2 a0_3 a1_0 a1_1 t340 _ ?side1 ?side2 ?side3 ?side4 A3.out).mono ?_); (case side1 => repeat (first | exact (Kd.C_below HR0_1.out HB.out) | (with_reducible refine Kd.C_alloc ?_ _) | (with_reducible refine Kd.C_drewN ?_ _) | (with_reducible refine Kd.C_drew ?_))); (case side2 => exact HC0_1.out); (case side3 => repeat (first | exact (Kd.C_below HR0_2.out HB.out) | (with_reducible refine Kd.C_alloc ?_ _) | (with_reducible refine Kd.C_drewN ?_ _) | (with_reducible refine Kd.C_drew ?_))); (case side4 => exact HC0_2.out); rintro e w14 ⟨rfl, hb⟩; refine ⟨_, rfl, ?_⟩; have n0_ := Aside0.mk (blk_below (g := gb337) (o := .cells #[.int .i64 a0_0, .slice A0_1 l0_1.length c0_1, .slice A0_2 l0_2.length c0_2, .bool a0_3] 24 (0, 0)) (by (with_reducible repeat (first | refine blk_drewN ?_ _ | refine blk_drew ?_ | refine blk_alloc ?_ _)); exact BK337.out) hb); have n1_ := Aside0.mk (blk_below (g := gb338) (o := .cells #[.int .i64 a1_0, .int .i64 a1_1] 29 (0, 0)) (by (with_reducible repeat (first | refine blk_drewN ?_ _ | refine blk_drew ?_ | refine blk_alloc ?_ _)); exact BK338.out) hb); have n2_ := Aside0.mk (blk_below (g := gb339) (o := .cells #[.int .i64 0, .slice none 0 0, .slice none 0 0, .bool false] 24 (0, 0)) (by (with_reducible repeat (first | refine blk_drewN ?_ _ | refine blk_drew ?_ | refine blk_alloc ?_ _)); exact BK339.out) hb); have n3_ := Aside0.mk (below_step (by repeat (first | (with_reducible first | exact HB.out | apply below_alloc | apply pw_below_drewN | apply below_drew1 | refine below_set ?_ GE337.out | refine below_set ?_ GE338.out | refine below_set ?_ GE339.out) | exact HB.out)) hb); clear BK337; clear BK338; clear BK339; clear HB; have BK337 := n0_; have BK338 := n1_; have BK339 := n2_; have HB := n3_; clear n0_ n1_ n2_ n3_; (try clear hb); (try clear hb2); (try clear hk); (try clear hi); have hcz15_0 : w14.cell? ⟨gb337, 0, none⟩ = some (.int .i64 a0_0) := (blk_cell BK337.out 0).trans rfl; have hcz15_1 : w14.cell? ⟨gb337, 1, none⟩ = some (.slice A0_1 l0_1.length c0_1) := (blk_cell BK337.out 1).trans rfl; have hcz15_2 : w14.cell? ⟨gb337, 2, none⟩ = some (.slice A0_2 l0_2.length c0_2) := (blk_cell BK337.out 2).trans rfl; have hcz15_3 : w14.cell? ⟨gb337, 3, none⟩ = some (.bool a0_3) := (blk_cell BK337.out 3).trans rfl; have hfz15_0 := blk_frozen BK337.out 0; have hfz15_1 := blk_frozen BK337.out 1; have hfz15_2 := blk_frozen BK337.out 2; have hfz15_3 := blk_frozen BK337.out 3; have hcz16_0 : w14.cell? ⟨gb338, 0, none⟩ = some (.int .i64 a1_0) := (blk_cell BK338.out 0).trans rfl; have hcz16_1 : w14.cell? ⟨gb338, 1, none⟩ = some (.int .i64 a1_1) := (blk_cell BK338.out 1).trans rfl; have hfz16_0 := blk_frozen BK338.out 0; have hfz16_1 := blk_frozen BK338.out 1) | ((with_reducible refine gate_callee (f := 51) rfl ?_); refine goesL_ (some 16) rfl rfl Tryd.func51 (by kernel_rfl) rfl #[.agg #[.int .i64 a0_0, .slice A0_1 l0_1.length c0_1, .slice A0_2 l0_2.length c0_2, .bool a0_3], .agg #[.int .i64 a1_0, .int .i64 a1_1]] rfl (by (try simp only [List.map_toArray, List.map_cons, List.map_nil]); first | done | rfl | (simp only [List.length_drop, List.length_take]; rfl)) ?_; (with_reducible refine (winnowref19_charged.calls a0_0 _ _ l0_1 _ _ l0_2 a0_3 a1_0 a1_1 t341 t342 t345 t348 _ ?side1 ?side2 ?side3 ?side4 A5.out).mono ?_); (case side1 => repeat (first | exact (Kd.C_below HR0_1.out HB.out) | (with_reducible refine Kd.C_alloc ?_ _) | (with_reducible refine Kd.C_drewN ?_ _) | (with_reducible refine Kd.C_drew ?_))); (case side2 => exact HC0_1.out); (case side3 => repeat (first | exact (Kd.C_below HR0_2.out HB.out) | (with_reducible refine Kd.C_alloc ?_ _) | (with_reducible refine Kd.C_drewN ?_ _) | (with_reducible refine Kd.C_drew ?_))); (case side4 => exact HC0_2.out); rintro e w17 ⟨v343, v346, rfl, ho0, ho1, hb⟩; refine ⟨_, rfl, ?_⟩; have n0_ := Aside0.mk (Kd.R_lower ho0 (below_size (by repeat (first | (with_reducible first | exact HB.out | apply below_alloc | apply pw_below_drewN | apply below_drew1 | refine below_set ?_ GE337.out | refine below_set ?_ GE338.out | refine below_set ?_ GE339.out) | exact HB.out)))); have n1_ := Aside0.mk (Kd.R_lower ho1 (below_size (by repeat (first | (with_reducible first | exact HB.out | apply below_alloc | apply pw_below_drewN | apply below_drew1 | refine below_set ?_ GE337.out | refine below_set ?_ GE338.out | refine below_set ?_ GE339.out) | exact HB.out)))); have n2_ := Aside0.mk (blk_below (g := gb337) (o := .cells #[.int .i64 a0_0, .slice A0_1 l0_1.length c0_1, .slice A0_2 l0_2.length c0_2, .bool a0_3] 24 (0, 0)) (by (with_reducible repeat (first | refine blk_drewN ?_ _ | refine blk_drew ?_ | refine blk_alloc ?_ _)); exact BK337.out) hb); have n3_ := Aside0.mk (blk_below (g := gb338) (o := .cells #[.int .i64 a1_0, .int .i64 a1_1] 29 (0, 0)) (by (with_reducible repeat (first | refine blk_drewN ?_ _ | refine blk_drew ?_ | refine blk_alloc ?_ _)); exact BK338.out) hb); have n4_ := Aside0.mk (blk_below (g := gb339) (o := .cells #[.int .i64 0, .slice none 0 0, .slice none 0 0, .bool false] 24 (0, 0)) (by (with_reducible repeat (first | refine blk_drewN ?_ _ | refine blk_drew ?_ | refine blk_alloc ?_ _)); exact BK339.out) hb); have n5_ := Aside0.mk (below_step (by repeat (first | (with_reducible first | exact HB.out | apply below_alloc | apply pw_below_drewN | apply below_drew1 | refine below_set ?_ GE337.out | refine below_set ?_ GE338.out | refine below_set ?_ GE339.out) | exact HB.out)) hb); clear BK337; clear BK338; clear BK339; clear HB; have HO344 := n0_; have HO347 := n1_; have BK337 := n2_; have BK338 := n3_; have BK339 := n4_; have HB := n5_; clear n0_ n1_ n2_ n3_ n4_ n5_; (try clear hb); (try clear hb2); (try clear hk); (try clear hi); (try clear ho0); (try clear ho1); have hcz18_0 : w17.cell? ⟨gb339, 0, none⟩ = some (.int .i64 0) := (blk_cell BK339.out 0).trans rfl; have hcz18_1 : w17.cell? ⟨gb339, 1, none⟩ = some (.slice none 0 0) := (blk_cell BK339.out 1).trans rfl; have hcz18_2 : w17.cell? ⟨gb339, 2, none⟩ = some (.slice none 0 0) := (blk_cell BK339.out 2).trans rfl; have hcz18_3 : w17.cell? ⟨gb339, 3, none⟩ = some (.bool false) := (blk_cell BK339.out 3).trans rfl; have hfz18_0 := blk_frozen BK339.out 0; have hfz18_1 := blk_frozen BK339.out 1; have hfz18_2 := blk_frozen BK339.out 2; have hfz18_3 := blk_frozen BK339.out 3; obtain ⟨Ao19, co19, eo19⟩ := Kd.R_slice HO344.out; subst eo19; obtain ⟨Ao20, co20, eo20⟩ := Kd.R_slice HO347.out; subst eo20))
    refine bodyPost_ret (results_ct rfl _ _ gb339 24 #[.int .i64 t341, .slice Ao19 t342.length co19, .slice Ao20 t345.length co20, .bool t348] (0, 0) _ rfl (by (with_reducible repeat (first | refine blk_drewN ?_ _ | refine blk_drew ?_ | refine blk_alloc ?_ _)); refine blk_put (cs := #[.int .i64 t341, .slice Ao19 t342.length co19, .slice Ao20 t345.length co20, .bool false]) ?_ 3 _ rfl; (with_reducible repeat (first | refine blk_drewN ?_ _ | refine blk_drew ?_ | refine blk_alloc ?_ _)); refine blk_put (cs := #[.int .i64 t341, .slice Ao19 t342.length co19, .slice none 0 0, .bool false]) ?_ 2 _ rfl; (with_reducible repeat (first | refine blk_drewN ?_ _ | refine blk_drew ?_ | refine blk_alloc ?_ _)); refine blk_put (cs := #[.int .i64 t341, .slice none 0 0, .slice none 0 0, .bool false]) ?_ 1 _ rfl; (with_reducible repeat (first | refine blk_drewN ?_ _ | refine blk_drew ?_ | refine blk_alloc ?_ _)); refine blk_put (cs := #[.int .i64 0, .slice none 0 0, .slice none 0 0, .bool false]) ?_ 0 _ rfl; (with_reducible repeat (first | refine blk_drewN ?_ _ | refine blk_drew ?_ | refine blk_alloc ?_ _)); exact BK339.out) Tryd.underlying24 rfl (by kernel_rfl)) rfl ?_
    exact ⟨_, _, by first | rfl | (simp [errW_none, errW_some] <;> rfl) | (simp [*, errW_none, errW_some] <;> rfl), by (with_reducible repeat (first | apply Kd.R_alloc | apply Kd.R_drewN | apply Kd.R_drew)); exact Kd.R_mono (Kd.R_far (p := ⟨gb339, 3, none⟩) (Kd.R_far (p := ⟨gb339, 2, none⟩) (Kd.R_far (p := ⟨gb339, 1, none⟩) (Kd.R_far (p := ⟨gb339, 0, none⟩) (Kd.R_types HO344.out BK339.out (by decide)) (fun _ hk => hk.2) (.int .i64 t341)) (fun _ hk => hk.2) (.slice Ao19 t342.length co19)) (fun _ hk => hk.2) (.slice Ao20 t345.length co20)) (fun _ hk => hk.2) (.bool t348)) (fun _ hk => hk.1), by (with_reducible repeat (first | apply Kd.R_alloc | apply Kd.R_drewN | apply Kd.R_drew)); exact Kd.R_mono (Kd.R_far (p := ⟨gb339, 3, none⟩) (Kd.R_far (p := ⟨gb339, 2, none⟩) (Kd.R_far (p := ⟨gb339, 1, none⟩) (Kd.R_far (p := ⟨gb339, 0, none⟩) (Kd.R_types HO347.out BK339.out (by decide)) (fun _ hk => hk.2) (.int .i64 t341)) (fun _ hk => hk.2) (.slice Ao19 t342.length co19)) (fun _ hk => hk.2) (.slice Ao20 t345.length co20)) (fun _ hk => hk.2) (.bool t348)) (fun _ hk => hk.1), by repeat (first | (with_reducible first | exact HB.out | apply below_alloc | apply pw_below_drewN | apply below_drew1 | refine below_set ?_ GE337.out | refine below_set ?_ GE338.out | refine below_set ?_ GE339.out) | exact HB.out)⟩
  · rw [if_neg c4] at H
    have c4b0 : (t340 == 0) = false := beq_eq_false_iff_ne.mpr c4
    have c4b1 : (t340 != 0) = true := bne_iff_ne.mpr c4
    simp only [Option.some.injEq, Prod.mk.injEq] at H
    obtain ⟨rfl, rfl, rfl, rfl, rfl⟩ := H
    go_enter Tryd.func25, Tryd.ntmps25
    go_wp2_with (first | ((with_reducible refine gate_dst (N := 2) rfl ?_); refine box_event ?hg (N := 2) ?hd (cs := #[.int .i64 a0_0, .slice A0_1 l0_1.length c0_1, .slice A0_2 l0_2.length c0_2, .bool a0_3]) (t := 24) ?hr ?_; (case hd => rfl); (case hg => rfl); (case hr => first | (go_simp; done) | (go_simp; rfl)); intro gb337 hg w21 hbox hb; have n0_ := Aside0.mk (below_step (by repeat (first | (with_reducible first | exact HB.out | apply below_alloc | apply pw_below_drewN | apply below_drew1) | exact HB.out)) hb); have n1_ := Aside0.mk (hbox); have n2_ := Aside0.mk ((by rw [hg]; exact (below_size (by repeat (first | (with_reducible first | exact HB.out | apply below_alloc | apply pw_below_drewN | apply below_drew1) | exact HB.out))) : w.heap.size ≤ gb337)); have n3_ := Aside0.mk ((by rw [hg]; exact (below_size (by repeat (first | (with_reducible first | exact HB.out | apply below_alloc | apply pw_below_drewN | apply below_drew1) | exact HB.out))) : w.heap.size ≤ gb337)); clear HB; have HB := n0_; have BK337 := n1_; have GW337 := n2_; have GE337 := n3_; clear n0_ n1_ n2_ n3_; clear hb hbox hg) | ((with_reducible refine gate_dst (N := 3) rfl ?_); refine box_event ?hg (N := 3) ?hd (cs := #[.int .i64 a1_0, .int .i64 a1_1]) (t := 29) ?hr ?_; (case hd => rfl); (case hg => rfl); (case hr => first | (go_simp; done) | (go_simp; rfl)); intro gb338 hg w22 hbox hb; have n0_ := Aside0.mk (blk_below (g := gb337) (o := .cells #[.int .i64 a0_0, .slice A0_1 l0_1.length c0_1, .slice A0_2 l0_2.length c0_2, .bool a0_3] 24 (0, 0)) (by (with_reducible repeat (first | refine blk_drewN ?_ _ | refine blk_drew ?_ | refine blk_alloc ?_ _)); exact BK337.out) hb); have n1_ := Aside0.mk (below_step (by repeat (first | (with_reducible first | exact HB.out | apply below_alloc | apply pw_below_drewN | apply below_drew1 | refine below_set ?_ GE337.out) | exact HB.out)) hb); have n2_ := Aside0.mk (hbox); have n3_ := Aside0.mk ((by rw [hg]; exact (below_size (by repeat (first | (with_reducible first | exact HB.out | apply below_alloc | apply pw_below_drewN | apply below_drew1 | refine below_set ?_ GE337.out) | exact HB.out))) : w.heap.size ≤ gb338)); have n4_ := Aside0.mk ((by rw [hg]; exact (below_size (by repeat (first | (with_reducible first | exact HB.out | apply below_alloc | apply pw_below_drewN | apply below_drew1 | refine below_set ?_ GE337.out) | exact HB.out))) : w.heap.size ≤ gb338)); have n5_ := Aside0.mk ((by rw [hg]; exact Nat.ne_of_lt (blk_lt (g := gb337) (o := .cells #[.int .i64 a0_0, .slice A0_1 l0_1.length c0_1, .slice A0_2 l0_2.length c0_2, .bool a0_3] 24 (0, 0)) (by (with_reducible repeat (first | refine blk_drewN ?_ _ | refine blk_drew ?_ | refine blk_alloc ?_ _)); exact BK337.out)) : gb337 ≠ gb338)); have n6_ := Aside0.mk ((by rw [hg]; exact Nat.ne_of_gt (blk_lt (g := gb337) (o := .cells #[.int .i64 a0_0, .slice A0_1 l0_1.length c0_1, .slice A0_2 l0_2.length c0_2, .bool a0_3] 24 (0, 0)) (by (with_reducible repeat (first | refine blk_drewN ?_ _ | refine blk_drew ?_ | refine blk_alloc ?_ _)); exact BK337.out)) : gb338 ≠ gb337)); clear BK337; clear HB; have BK337 := n0_; have HB := n1_; have BK338 := n2_; have GW338 := n3_; have GE338 := n4_; have NB337_338 := n5_; have NB338_337 := n6_; clear n0_ n1_ n2_ n3_ n4_ n5_ n6_; clear hb hbox hg) | ((with_reducible refine gate_dst (N := 4) rfl ?_); refine box_event ?hg (N := 4) ?hd (cs := #[.int .i64 0, .slice none 0 0, .slice none 0 0, .bool false]) (t := 24) ?hr ?_; (case hd => rfl); (case hg => rfl); (case hr => first | (go_simp; done) | (go_simp; rfl)); intro gb339 hg w23 hbox hb; have n0_ := Aside0.mk (blk_below (g := gb337) (o := .cells #[.int .i64 a0_0, .slice A0_1 l0_1.length c0_1, .slice A0_2 l0_2.length c0_2, .bool a0_3] 24 (0, 0)) (by (with_reducible repeat (first | refine blk_drewN ?_ _ | refine blk_drew ?_ | refine blk_alloc ?_ _)); exact BK337.out) hb); have n1_ := Aside0.mk (blk_below (g := gb338) (o := .cells #[.int .i64 a1_0, .int .i64 a1_1] 29 (0, 0)) (by (with_reducible repeat (first | refine blk_drewN ?_ _ | refine blk_drew ?_ | refine blk_alloc ?_ _)); exact BK338.out) hb); have n2_ := Aside0.mk (below_step (by repeat (first | (with_reducible first | exact HB.out | apply below_alloc | apply pw_below_drewN | apply below_drew1 | refine below_set ?_ GE337.out | refine below_set ?_ GE338.out) | exact HB.out)) hb); have n3_ := Aside0.mk (hbox); have n4_ := Aside0.mk ((by rw [hg]; exact (below_size (by repeat (first | (with_reducible first | exact HB.out | apply below_alloc | apply pw_below_drewN | apply below_drew1 | refine below_set ?_ GE337.out | refine below_set ?_ GE338.out) | exact HB.out))) : w.heap.size ≤ gb339)); have n5_ := Aside0.mk ((by rw [hg]; exact (below_size (by repeat (first | (with_reducible first | exact HB.out | apply below_alloc | apply pw_below_drewN | apply below_drew1 | refine below_set ?_ GE337.out | refine below_set ?_ GE338.out) | exact HB.out))) : w.heap.size ≤ gb339)); have n6_ := Aside0.mk ((by rw [hg]; exact Nat.ne_of_lt (blk_lt (g := gb337) (o := .cells #[.int .i64 a0_0, .slice A0_1 l0_1.length c0_1, .slice A0_2 l0_2.length c0_2, .bool a0_3] 24 (0, 0)) (by (with_reducible repeat (first | refine blk_drewN ?_ _ | refine blk_drew ?_ | refine blk_alloc ?_ _)); exact BK337.out)) : gb337 ≠ gb339)); have n7_ := Aside0.mk ((by rw [hg]; exact Nat.ne_of_gt (blk_lt (g := gb337) (o := .cells #[.int .i64 a0_0, .slice A0_1 l0_1.length c0_1, .slice A0_2 l0_2.length c0_2, .bool a0_3] 24 (0, 0)) (by (with_reducible repeat (first | refine blk_drewN ?_ _ | refine blk_drew ?_ | refine blk_alloc ?_ _)); exact BK337.out)) : gb339 ≠ gb337)); have n8_ := Aside0.mk ((by rw [hg]; exact Nat.ne_of_lt (blk_lt (g := gb338) (o := .cells #[.int .i64 a1_0, .int .i64 a1_1] 29 (0, 0)) (by (with_reducible repeat (first | refine blk_drewN ?_ _ | refine blk_drew ?_ | refine blk_alloc ?_ _)); exact BK338.out)) : gb338 ≠ gb339)); have n9_ := Aside0.mk ((by rw [hg]; exact Nat.ne_of_gt (blk_lt (g := gb338) (o := .cells #[.int .i64 a1_0, .int .i64 a1_1] 29 (0, 0)) (by (with_reducible repeat (first | refine blk_drewN ?_ _ | refine blk_drew ?_ | refine blk_alloc ?_ _)); exact BK338.out)) : gb339 ≠ gb338)); clear BK337; clear BK338; clear HB; have BK337 := n0_; have BK338 := n1_; have HB := n2_; have BK339 := n3_; have GW339 := n4_; have GE339 := n5_; have NB337_339 := n6_; have NB339_337 := n7_; have NB338_339 := n8_; have NB339_338 := n9_; clear n0_ n1_ n2_ n3_ n4_ n5_ n6_ n7_ n8_ n9_; clear hb hbox hg; have hnb24 := NB337_338.out; have hnc24 := NB338_337.out; have hnb25 := NB337_339.out; have hnc25 := NB339_337.out; have hcz26_0 : w23.cell? ⟨gb337, 0, none⟩ = some (.int .i64 a0_0) := (blk_cell BK337.out 0).trans rfl; have hcz26_1 : w23.cell? ⟨gb337, 1, none⟩ = some (.slice A0_1 l0_1.length c0_1) := (blk_cell BK337.out 1).trans rfl; have hcz26_2 : w23.cell? ⟨gb337, 2, none⟩ = some (.slice A0_2 l0_2.length c0_2) := (blk_cell BK337.out 2).trans rfl; have hcz26_3 : w23.cell? ⟨gb337, 3, none⟩ = some (.bool a0_3) := (blk_cell BK337.out 3).trans rfl; have hfz26_0 := blk_frozen BK337.out 0; have hfz26_1 := blk_frozen BK337.out 1; have hfz26_2 := blk_frozen BK337.out 2; have hfz26_3 := blk_frozen BK337.out 3; have hnb27 := NB338_339.out; have hnc27 := NB339_338.out; have hcz28_0 : w23.cell? ⟨gb338, 0, none⟩ = some (.int .i64 a1_0) := (blk_cell BK338.out 0).trans rfl; have hcz28_1 : w23.cell? ⟨gb338, 1, none⟩ = some (.int .i64 a1_1) := (blk_cell BK338.out 1).trans rfl; have hfz28_0 := blk_frozen BK338.out 0; have hfz28_1 := blk_frozen BK338.out 1) | ((with_reducible refine gate_callee (f := 47) rfl ?_); refine goesL_ (some 9) rfl rfl Tryd.func47 (by kernel_rfl) rfl #[.agg #[.int .i64 a0_0, .slice A0_1 l0_1.length c0_1, .slice A0_2 l0_2.length c0_2, .bool a0_3], .agg #[.int .i64 a1_0, .int .i64 a1_1]] rfl (by (try simp only [List.map_toArray, List.map_cons, List.map_nil]); first | done | rfl | (simp only [List.length_drop, List.length_take]; rfl)) ?_; (with_reducible refine (winnowref19_ends.calls a0_0 _ _ l0_1 _ _ l0_2 a0_3 a1_0 a1_1 t340 _ ?side1 ?side2 ?side3 ?side4 A3.out).mono ?_); (case side1 => repeat (first | exact (Kd.C_below HR0_1.out HB.out) | (with_reducible refine Kd.C_alloc ?_ _) | (with_reducible refine Kd.C_drewN ?_ _) | (with_reducible refine Kd.C_drew ?_))); (case side2 => exact HC0_1.out); (case side3 => repeat (first | exact (Kd.C_below HR0_2.out HB.out) | (with_reducible refine Kd.C_alloc ?_ _) | (with_reducible refine Kd.C_drewN ?_ _) | (with_reducible refine Kd.C_drew ?_))); (case side4 => exact HC0_2.out); rintro e w29 ⟨rfl, hb⟩; refine ⟨_, rfl, ?_⟩; have n0_ := Aside0.mk (blk_below (g := gb337) (o := .cells #[.int .i64 a0_0, .slice A0_1 l0_1.length c0_1, .slice A0_2 l0_2.length c0_2, .bool a0_3] 24 (0, 0)) (by (with_reducible repeat (first | refine blk_drewN ?_ _ | refine blk_drew ?_ | refine blk_alloc ?_ _)); exact BK337.out) hb); have n1_ := Aside0.mk (blk_below (g := gb338) (o := .cells #[.int .i64 a1_0, .int .i64 a1_1] 29 (0, 0)) (by (with_reducible repeat (first | refine blk_drewN ?_ _ | refine blk_drew ?_ | refine blk_alloc ?_ _)); exact BK338.out) hb); have n2_ := Aside0.mk (blk_below (g := gb339) (o := .cells #[.int .i64 0, .slice none 0 0, .slice none 0 0, .bool false] 24 (0, 0)) (by (with_reducible repeat (first | refine blk_drewN ?_ _ | refine blk_drew ?_ | refine blk_alloc ?_ _)); exact BK339.out) hb); have n3_ := Aside0.mk (below_step (by repeat (first | (with_reducible first | exact HB.out | apply below_alloc | apply pw_below_drewN | apply below_drew1 | refine below_set ?_ GE337.out | refine below_set ?_ GE338.out | refine below_set ?_ GE339.out) | exact HB.out)) hb); clear BK337; clear BK338; clear BK339; clear HB; have BK337 := n0_; have BK338 := n1_; have BK339 := n2_; have HB := n3_; clear n0_ n1_ n2_ n3_; (try clear hb); (try clear hb2); (try clear hk); (try clear hi); have hcz30_0 : w29.cell? ⟨gb339, 0, none⟩ = some (.int .i64 0) := (blk_cell BK339.out 0).trans rfl; have hcz30_1 : w29.cell? ⟨gb339, 1, none⟩ = some (.slice none 0 0) := (blk_cell BK339.out 1).trans rfl; have hcz30_2 : w29.cell? ⟨gb339, 2, none⟩ = some (.slice none 0 0) := (blk_cell BK339.out 2).trans rfl; have hcz30_3 : w29.cell? ⟨gb339, 3, none⟩ = some (.bool false) := (blk_cell BK339.out 3).trans rfl; have hfz30_0 := blk_frozen BK339.out 0; have hfz30_1 := blk_frozen BK339.out 1; have hfz30_2 := blk_frozen BK339.out 2; have hfz30_3 := blk_frozen BK339.out 3))
    refine bodyPost_ret (results_ct rfl _ _ gb339 24 #[.int .i64 0, .slice none 0 0, .slice none 0 0, .bool false] (0, 0) _ rfl (by (with_reducible repeat (first | refine blk_drewN ?_ _ | refine blk_drew ?_ | refine blk_alloc ?_ _)); refine blk_put (cs := #[.int .i64 0, .slice none 0 0, .slice none 0 0, .bool false]) ?_ 3 _ rfl; (with_reducible repeat (first | refine blk_drewN ?_ _ | refine blk_drew ?_ | refine blk_alloc ?_ _)); refine blk_put (cs := #[.int .i64 0, .slice none 0 0, .slice none 0 0, .bool false]) ?_ 2 _ rfl; (with_reducible repeat (first | refine blk_drewN ?_ _ | refine blk_drew ?_ | refine blk_alloc ?_ _)); refine blk_put (cs := #[.int .i64 0, .slice none 0 0, .slice none 0 0, .bool false]) ?_ 1 _ rfl; (with_reducible repeat (first | refine blk_drewN ?_ _ | refine blk_drew ?_ | refine blk_alloc ?_ _)); refine blk_put (cs := #[.int .i64 0, .slice none 0 0, .slice none 0 0, .bool false]) ?_ 0 _ rfl; (with_reducible repeat (first | refine blk_drewN ?_ _ | refine blk_drew ?_ | refine blk_alloc ?_ _)); exact BK339.out) Tryd.underlying24 rfl (by kernel_rfl)) rfl ?_
    exact ⟨_, _, by first | rfl | (simp [errW_none, errW_some] <;> rfl) | (simp [*, errW_none, errW_some] <;> rfl), by first | exact Kd.R_nil _ _ _ _ _ | exact Kd.N_nil _ _ _ _ _ | exact Kd.V_nil _ _ _ _ _ | exact Kd.Q_nil _ _ _ _ _ | exact Kd.S_nil _ _ _ _ _, by first | exact Kd.R_nil _ _ _ _ _ | exact Kd.N_nil _ _ _ _ _ | exact Kd.V_nil _ _ _ _ _ | exact Kd.Q_nil _ _ _ _ _ | exact Kd.S_nil _ _ _ _ _, by repeat (first | (with_reducible first | exact HB.out | apply below_alloc | apply pw_below_drewN | apply below_drew1 | refine below_set ?_ GE337.out | refine below_set ?_ GE338.out | refine below_set ?_ GE339.out) | exact HB.out)⟩

end Go.Proofs.YtponmfnegdlppaaDoor.P

end
section
/- The document's answers are the program's, in plain lists: Done and Died. -/
namespace Go.Proofs.YtponmfnegdlppaaDoor.P
open Go.RowKit Go.Proofs.YtponmfnegdlppaaDoorW.PrintWords Go.Proofs.YtponmfnegdlppaaDoorW.PrintLast Go.Proofs.YtponmfnegdlppaaDoorW.PrintMore
set_option linter.unusedVariables false
set_option linter.unusedSimpArgs false

theorem refEnds (t : Int) (l0 l1 : List S38) (fl : Bool) (k b : Int) :
    winnowref19_ends.f t l0 l1 fl k b = some (if knownP t l0 l1 fl [⟨k, b⟩] = 0 then (if fl = true ∨ (stP l0 l1 k b).f0 ≠ 1 then 192 else 0) else knownP t l0 l1 fl [⟨k, b⟩]) := by
  unfold winnowref19_ends.f
  rw [refRefusal t l0 l1 fl k b, Option.bind_some]
  by_cases h : knownP t l0 l1 fl [⟨k, b⟩] = 0
  · rw [if_pos h, if_pos h]
    by_cases hf : fl = true
    · rw [if_pos hf, if_pos (.inl hf)]
    · rw [if_neg hf, refAt t l0 l1 fl k b (isT_known h), Option.bind_some]
      dsimp only
      by_cases h1 : (stP l0 l1 k b).f0 = 1
      · rw [if_pos h1, if_neg (by rintro (q | q); exact hf q; exact q h1), h]
      · rw [if_neg h1, if_pos (.inr h1)]
  · rw [if_neg h, if_neg h]
theorem refDone (t : Int) (l0 l1 : List S38) (fl : Bool) (k b : Int) : winnowref19_Done.f t l0 l1 fl k b = some (doneP t l0 l1 fl k b) := by
  unfold winnowref19_Done.f doneP endP
  rw [refEnds t l0 l1 fl k b, Option.bind_some]
  by_cases h : knownP t l0 l1 fl [⟨k, b⟩] = 0
  · rw [if_pos h, if_pos h]
    obtain ⟨l0b, l1b⟩ := len_ok (known_one h).1
    by_cases h1 : fl = true ∨ (stP l0 l1 k b).f0 ≠ 1
    · rw [if_pos h1, if_pos h1, if_neg (by decide)]
    · rw [if_neg h1, if_neg h1, if_pos rfl, refAt t l0 l1 fl k b (isT_known h), Option.bind_some]
      dsimp only
      rw [refWith t l0 l1 fl k b _ _ _ (isT_known h) l0b l1b, Option.bind_some]
      have hf : fl = false := by cases fl with | false => rfl | true => exact absurd (.inl rfl) h1
      unfold putP
      by_cases hk : k = 0
      · rw [if_pos hk, if_pos hk, hf]
      · rw [if_neg hk, if_neg hk, hf]
  · rw [if_neg h, if_neg h, if_neg h]
theorem refDied (t : Int) (l0 l1 : List S38) (fl : Bool) (k b : Int) : winnowref19_Died.f t l0 l1 fl k b = some (diedP t l0 l1 fl k b) := by
  unfold winnowref19_Died.f diedP endP
  rw [refEnds t l0 l1 fl k b, Option.bind_some]
  by_cases h : knownP t l0 l1 fl [⟨k, b⟩] = 0
  · rw [if_pos h, if_pos h]
    obtain ⟨l0b, l1b⟩ := len_ok (known_one h).1
    obtain ⟨q1, q2, q3, q4, q5, q6, q7, _⟩ := check_ok (known_one h).1
    by_cases h1 : fl = true ∨ (stP l0 l1 k b).f0 ≠ 1
    · rw [if_pos h1, if_pos h1, if_neg (by decide)]
    · obtain ⟨held, hg⟩ := st_good (known_one h).1 (isT_known h)
      rw [if_neg h1, if_neg h1, if_pos rfl, refCharged t l0 l1 fl k b (isT_known h) l0b l1b (good_charge q2 hg), Option.bind_some]
      unfold putP
      by_cases hk : k = 0
      · rw [if_pos hk, if_pos hk]; rfl
      · rw [if_neg hk, if_neg hk]; rfl
  · rw [if_neg h, if_neg h, if_neg h]
end Go.Proofs.YtponmfnegdlppaaDoor.P

end
section
/- The law on ends: its walk (printed by HLaws.gen.py). -/
namespace Go.Proofs.YtponmfnegdlppaaDoor.P
open Go.RowKit Go.Proofs.YtponmfnegdlppaaDoorW.PrintWords Go.Proofs.YtponmfnegdlppaaDoorW.PrintLast Go.Proofs.YtponmfnegdlppaaDoorW.PrintMore
set_option linter.unusedVariables false
set_option linter.unusedSimpArgs false

theorem doneP_len {t : Int} {l0 l1 : List S38} {fl : Bool} {k b r1 : Int} {r2 r3 : List S38} {r4 : Bool} {r5 : Int} (h : doneP t l0 l1 fl k b = (r1, r2, r3, r4, r5)) : r2.length ≤ 100000 ∧ r3.length ≤ 100000 := by
  unfold doneP endP at h
  by_cases hk : knownP t l0 l1 fl [⟨k, b⟩] = 0
  · rw [if_pos hk] at h
    have hl := len_ok (known_one hk).1
    repeat' split at h
    all_goals (simp only [Prod.mk.injEq] at h; obtain ⟨_, rfl, rfl, _⟩ := h)
    all_goals first | exact ⟨by simp, by simp⟩ | exact hl | (rw [List.length_set]; exact hl)
  · rw [if_neg hk] at h
    simp only [Prod.mk.injEq] at h
    obtain ⟨_, rfl, rfl, _⟩ := h
    exact ⟨by simp, by simp⟩
theorem diedP_len {t : Int} {l0 l1 : List S38} {fl : Bool} {k b r1 : Int} {r2 r3 : List S38} {r4 : Bool} {r5 : Int} (h : diedP t l0 l1 fl k b = (r1, r2, r3, r4, r5)) : r2.length ≤ 100000 ∧ r3.length ≤ 100000 := by
  unfold diedP endP at h
  by_cases hk : knownP t l0 l1 fl [⟨k, b⟩] = 0
  · rw [if_pos hk] at h
    have hl := len_ok (known_one hk).1
    repeat' split at h
    all_goals (simp only [Prod.mk.injEq] at h; obtain ⟨_, rfl, rfl, _⟩ := h)
    all_goals first | exact ⟨by simp, by simp⟩ | exact hl | (rw [List.length_set]; exact hl)
  · rw [if_neg hk] at h
    simp only [Prod.mk.injEq] at h
    obtain ⟨_, rfl, rfl, _⟩ := h
    exact ⟨by simp, by simp⟩
set_option maxHeartbeats 8000000 in
set_option maxRecDepth 100000 in
theorem LedgerEnds_walk (t : Int) (A0 : Option Addr) (c0 : Nat) (l0 : List S38) (A1 : Option Addr) (c1 : Nat) (l1 : List S38) (fl : Bool) (k b : Int) (w : World) (hC0 : Kd.C k38 w A0 l0.length l0) (hc0 : l0.length ≤ c0) (hC1 : Kd.C k38 w A1 l1.length l1) (hc1 : l1.length ≤ c1) (hl0 : l0.length ≤ 6000000000000) (hl1 : l1.length ≤ 6000000000000) (hT : Tab w) :
    Calls Tryd.prog 4 #[.agg #[.int .i64 t, .slice A0 l0.length c0, .slice A1 l1.length c1, .bool fl], .agg #[.int .i64 k, .int .i64 b]] w fun e w' => e = .returned (.bool true) ∧ Below w.heap.size w w' := by
  have HC0 := Aside0.mk hC0
  have HC1 := Aside0.mk hC1
  have Hc0 := Aside0.mk hc0
  have Hc1 := Aside0.mk hc1
  have HL0 := Aside0.mk hl0
  have HL1 := Aside0.mk hl1
  have HT := Aside0.mk hT
  have HTL0 := Aside0.mk (turn_eq l0 hl0).2
  have HTL1 := Aside0.mk (turn_eq l1 hl1).2
  clear hC0 hC1 hc0 hc1 hl0 hl1 hT
  have hu22 := Tryd.underlying22
  have hu24 := Tryd.underlying24
  have hu29 := Tryd.underlying29
  obtain ⟨⟨d1, d2, d3, d4, d5⟩, hd⟩ : ∃ r, doneP t l0 l1 fl k b = r := ⟨_, rfl⟩
  obtain ⟨⟨f1, f2, f3, f4, f5⟩, hf⟩ : ∃ r, diedP t l0 l1 fl k b = r := ⟨_, rfl⟩
  obtain ⟨⟨p1, p2, p3, p4, p5⟩, hp⟩ : ∃ r, doneP t (turn l0) (turn l1) fl k b = r := ⟨_, rfl⟩
  obtain ⟨⟨q1, q2, q3, q4, q5⟩, hq⟩ : ∃ r, diedP t (turn l0) (turn l1) fl k b = r := ⟨_, rfl⟩
  have HD := Aside0.mk hd
  have HF := Aside0.mk hf
  have HP := Aside0.mk hp
  have HQ := Aside0.mk hq
  have dLEN := Aside0.mk (doneP_len hd)
  have fLEN := Aside0.mk (diedP_len hf)
  have pLEN := Aside0.mk (doneP_len hp)
  have qLEN := Aside0.mk (diedP_len hq)
  clear hd hf hp hq
  have HLT0 := Aside0.mk (show (turn l0).length ≤ 6000000000000 by rw [HTL0.out]; exact HL0.out)
  have HLT1 := Aside0.mk (show (turn l1).length ≤ 6000000000000 by rw [HTL1.out]; exact HL1.out)
  have z0 : (w.alloc (.cells #[.int .i64 t, .slice A0 l0.length c0, .slice A1 l1.length c1, .bool fl] 24)).heap.size = w.heap.size + 1 := by simp
  have hE0 := ((Env.start w).push #[.int .i64 t, .slice A0 l0.length c0, .slice A1 l1.length c1, .bool fl] 24).push #[.int .i64 k, .int .i64 b] 29
  rw [z0] at hE0
  clear z0
  obtain ⟨g3, hg1⟩ : ∃ g, g = w.heap.size + 1 := ⟨_, rfl⟩
  obtain ⟨g2, hg0⟩ : ∃ g, g = w.heap.size := ⟨_, rfl⟩
  rw [← hg1, ← hg0] at hE0
  obtain ⟨W0, hW0, hE⟩ : ∃ W0, (w.alloc (.cells #[.int .i64 t, .slice A0 l0.length c0, .slice A1 l1.length c1, .bool fl] 24)).alloc (.cells #[.int .i64 k, .int .i64 b] 29) = W0 ∧ Env w _ _ W0 := ⟨_, rfl, hE0⟩
  have HG0 := Aside0.mk hg0
  have HG1 := Aside0.mk hg1
  have HW0 := Aside0.mk hW0
  have HE := Aside0.mk hE
  clear hE hE0 hW0 hg0 hg1
  go_enter Tryd.func4, Tryd.ntmps4
  go_upto_region 1 with fail
  rw [← HG1.out, ← HG0.out, HW0.out]
  clear HW0 HG0 HG1
  have xg2_0 : W0.cell? ⟨g2, 0, none⟩ = some (.int .i64 t) := HE.out.at_ 1 0 rfl rfl
  have xg2_1 : W0.cell? ⟨g2, 1, none⟩ = some (.slice A0 l0.length c0) := HE.out.at_ 1 1 rfl rfl
  have xg2_2 : W0.cell? ⟨g2, 2, none⟩ = some (.slice A1 l1.length c1) := HE.out.at_ 1 2 rfl rfl
  have xg2_3 : W0.cell? ⟨g2, 3, none⟩ = some (.bool fl) := HE.out.at_ 1 3 rfl rfl
  go_wp2_with fail
  refine (given_any t fl A0 c0 l0 A1 c1 l1 _ (HE.out.came HC0.out) Hc0.out (HE.out.came HC1.out) Hc1.out HL0.out HL1.out).mono ?_
  clear xg2_0 xg2_1 xg2_2 xg2_3
  rintro e w1 ⟨X0, x0, X1, x1, rfl, hx0, hx1, s0, s1, hB⟩
  have hE := HE.out.rows2 hB rfl s0 s1 1 2 (show ([1, 2] : List Nat).Nodup from by decide) (by decide) (by decide)
  have Hx0 := Aside0.mk hx0
  have Hx1 := Aside0.mk hx1
  clear hB s0 s1 HE hx0 hx1
  have HE := Aside0.mk hE
  clear hE
  go_upto_region 2 with fail
  have hE := HE.out.push #[.int .i64 t, .slice X0 l0.length x0, .slice X1 l1.length x1, .bool fl] 24
  obtain ⟨g5, hg⟩ : ∃ g, g = w1.heap.size := ⟨_, rfl⟩
  rw [← hg] at hE ⊢
  generalize w1.alloc (.cells #[.int .i64 t, .slice X0 l0.length x0, .slice X1 l1.length x1, .bool fl] 24) = w2 at hE ⊢
  clear hg HE
  have HE := Aside0.mk hE
  clear hE
  have xg5_0 : w2.cell? ⟨g5, 0, none⟩ = some (.int .i64 t) := HE.out.at_ 0 0 rfl rfl
  have xg5_1 : w2.cell? ⟨g5, 1, none⟩ = some (.slice X0 l0.length x0) := HE.out.at_ 0 1 rfl rfl
  have xg5_2 : w2.cell? ⟨g5, 2, none⟩ = some (.slice X1 l1.length x1) := HE.out.at_ 0 2 rfl rfl
  have xg5_3 : w2.cell? ⟨g5, 3, none⟩ = some (.bool fl) := HE.out.at_ 0 3 rfl rfl
  have xg3_0 : w2.cell? ⟨g3, 0, none⟩ = some (.int .i64 k) := HE.out.at_ 1 0 rfl rfl
  have xg3_1 : w2.cell? ⟨g3, 1, none⟩ = some (.int .i64 b) := HE.out.at_ 1 1 rfl rfl
  go_wp2_with fail
  refine (done_any t fl _ _ l0 _ _ l1 k b d1 d2 d3 d4 d5 _ (C_front (HE.out.row_ 0 rfl)) (C_front (HE.out.row_ 1 rfl)) HL0.out HL1.out (HE.out.tab HT.out) HD.out).mono ?_
  clear xg5_0 xg5_1 xg5_2 xg5_3 xg3_0 xg3_1
  rintro e w3 ⟨v0, v1, rfl, s0, s1, hB⟩
  have hE := HE.out.rows2 hB rfl s0 s1 3 4 (show ([3, 4, 1, 2] : List Nat).Nodup from by decide) (by decide) (by decide)
  obtain ⟨P0, p0_, rfl⟩ := Kd.R_slice s0
  obtain ⟨P1, p1_, rfl⟩ := Kd.R_slice s1
  clear hB s0 s1 HE
  have HE := Aside0.mk hE
  clear hE
  go_upto_region 3 with fail
  have hE := HE.out.push #[.int .i64 d1, .slice P0 d2.length p0_, .slice P1 d3.length p1_, .bool d4] 24
  obtain ⟨g6, hg⟩ : ∃ g, g = w3.heap.size := ⟨_, rfl⟩
  rw [← hg] at hE ⊢
  generalize w3.alloc (.cells #[.int .i64 d1, .slice P0 d2.length p0_, .slice P1 d3.length p1_, .bool d4] 24) = w4 at hE ⊢
  clear hg HE
  have HE := Aside0.mk hE
  clear hE
  have xg5_0 : w4.cell? ⟨g5, 0, none⟩ = some (.int .i64 t) := HE.out.at_ 1 0 rfl rfl
  have xg5_1 : w4.cell? ⟨g5, 1, none⟩ = some (.slice X0 l0.length x0) := HE.out.at_ 1 1 rfl rfl
  have xg5_2 : w4.cell? ⟨g5, 2, none⟩ = some (.slice X1 l1.length x1) := HE.out.at_ 1 2 rfl rfl
  have xg5_3 : w4.cell? ⟨g5, 3, none⟩ = some (.bool fl) := HE.out.at_ 1 3 rfl rfl
  have xg3_0 : w4.cell? ⟨g3, 0, none⟩ = some (.int .i64 k) := HE.out.at_ 2 0 rfl rfl
  have xg3_1 : w4.cell? ⟨g3, 1, none⟩ = some (.int .i64 b) := HE.out.at_ 2 1 rfl rfl
  go_wp2_with fail
  refine (done_any t fl _ _ l0 _ _ l1 k b d1 d2 d3 d4 d5 _ (C_front (HE.out.row_ 2 rfl)) (C_front (HE.out.row_ 3 rfl)) HL0.out HL1.out (HE.out.tab HT.out) HD.out).mono ?_
  clear xg5_0 xg5_1 xg5_2 xg5_3 xg3_0 xg3_1
  rintro e w5 ⟨v0, v1, rfl, s0, s1, hB⟩
  have hE := HE.out.rows2 hB rfl s0 s1 5 6 (show ([5, 6, 3, 4, 1, 2] : List Nat).Nodup from by decide) (by decide) (by decide)
  obtain ⟨Q0, q0_, rfl⟩ := Kd.R_slice s0
  obtain ⟨Q1, q1_, rfl⟩ := Kd.R_slice s1
  clear hB s0 s1 HE
  have HE := Aside0.mk hE
  clear hE
  go_upto_region 4 with fail
  have hE := HE.out.push #[.int .i64 d1, .slice Q0 d2.length q0_, .slice Q1 d3.length q1_, .bool d4] 24
  obtain ⟨g8, hg⟩ : ∃ g, g = w5.heap.size := ⟨_, rfl⟩
  rw [← hg] at hE ⊢
  generalize w5.alloc (.cells #[.int .i64 d1, .slice Q0 d2.length q0_, .slice Q1 d3.length q1_, .bool d4] 24) = w6 at hE ⊢
  clear hg HE
  have HE := Aside0.mk hE
  clear hE
  have xg2_0 : w6.cell? ⟨g2, 0, none⟩ = some (.int .i64 t) := HE.out.at_ 4 0 rfl rfl
  have xg2_1 : w6.cell? ⟨g2, 1, none⟩ = some (.slice A0 l0.length c0) := HE.out.at_ 4 1 rfl rfl
  have xg2_2 : w6.cell? ⟨g2, 2, none⟩ = some (.slice A1 l1.length c1) := HE.out.at_ 4 2 rfl rfl
  have xg2_3 : w6.cell? ⟨g2, 3, none⟩ = some (.bool fl) := HE.out.at_ 4 3 rfl rfl
  have xg3_0 : w6.cell? ⟨g3, 0, none⟩ = some (.int .i64 k) := HE.out.at_ 3 0 rfl rfl
  have xg3_1 : w6.cell? ⟨g3, 1, none⟩ = some (.int .i64 b) := HE.out.at_ 3 1 rfl rfl
  go_wp2_with fail
  refine (winnowref19_Done.calls t _ _ l0 _ _ l1 fl k b d1 d2 d3 d4 d5 _ (HE.out.came HC0.out) Hc0.out (HE.out.came HC1.out) Hc1.out (by rw [refDone t l0 l1 fl k b, HD.out])).mono ?_
  clear xg2_0 xg2_1 xg2_2 xg2_3 xg3_0 xg3_1
  rintro e w7 ⟨v0, v1, rfl, s0, s1, hB⟩
  have hE := HE.out.rows2 hB rfl s0 s1 7 8 (show ([7, 8, 5, 6, 3, 4, 1, 2] : List Nat).Nodup from by decide) (by decide) (by decide)
  obtain ⟨Z0, z0_, rfl⟩ := Kd.R_slice s0
  obtain ⟨Z1, z1_, rfl⟩ := Kd.R_slice s1
  clear hB s0 s1 HE
  have HE := Aside0.mk hE
  clear hE
  go_upto_region 5 with fail
  have hE := HE.out.push #[.int .i64 d1, .slice Z0 d2.length z0_, .slice Z1 d3.length z1_, .bool d4] 24
  obtain ⟨g10, hg⟩ : ∃ g, g = w7.heap.size := ⟨_, rfl⟩
  rw [← hg] at hE ⊢
  generalize w7.alloc (.cells #[.int .i64 d1, .slice Z0 d2.length z0_, .slice Z1 d3.length z1_, .bool d4] 24) = w8 at hE ⊢
  clear hg HE
  have HE := Aside0.mk hE
  clear hE
  have xg5_0 : w8.cell? ⟨g5, 0, none⟩ = some (.int .i64 t) := HE.out.at_ 3 0 rfl rfl
  have xg5_1 : w8.cell? ⟨g5, 1, none⟩ = some (.slice X0 l0.length x0) := HE.out.at_ 3 1 rfl rfl
  have xg5_2 : w8.cell? ⟨g5, 2, none⟩ = some (.slice X1 l1.length x1) := HE.out.at_ 3 2 rfl rfl
  have xg5_3 : w8.cell? ⟨g5, 3, none⟩ = some (.bool fl) := HE.out.at_ 3 3 rfl rfl
  have xg3_0 : w8.cell? ⟨g3, 0, none⟩ = some (.int .i64 k) := HE.out.at_ 4 0 rfl rfl
  have xg3_1 : w8.cell? ⟨g3, 1, none⟩ = some (.int .i64 b) := HE.out.at_ 4 1 rfl rfl
  go_wp2_with fail
  refine (died_any t fl _ _ l0 _ _ l1 k b f1 f2 f3 f4 f5 _ (C_front (HE.out.row_ 6 rfl)) (C_front (HE.out.row_ 7 rfl)) HL0.out HL1.out (HE.out.tab HT.out) HF.out).mono ?_
  clear xg5_0 xg5_1 xg5_2 xg5_3 xg3_0 xg3_1
  rintro e w9 ⟨v0, v1, rfl, s0, s1, hB⟩
  have hE := HE.out.rows2 hB rfl s0 s1 9 10 (show ([9, 10, 7, 8, 5, 6, 3, 4, 1, 2] : List Nat).Nodup from by decide) (by decide) (by decide)
  obtain ⟨R0, r0_, rfl⟩ := Kd.R_slice s0
  obtain ⟨R1, r1_, rfl⟩ := Kd.R_slice s1
  clear hB s0 s1 HE
  have HE := Aside0.mk hE
  clear hE
  go_upto_region 6 with fail
  have hE := HE.out.push #[.int .i64 f1, .slice R0 f2.length r0_, .slice R1 f3.length r1_, .bool f4] 24
  obtain ⟨g12, hg⟩ : ∃ g, g = w9.heap.size := ⟨_, rfl⟩
  rw [← hg] at hE ⊢
  generalize w9.alloc (.cells #[.int .i64 f1, .slice R0 f2.length r0_, .slice R1 f3.length r1_, .bool f4] 24) = w10 at hE ⊢
  clear hg HE
  have HE := Aside0.mk hE
  clear hE
  have xg5_0 : w10.cell? ⟨g5, 0, none⟩ = some (.int .i64 t) := HE.out.at_ 4 0 rfl rfl
  have xg5_1 : w10.cell? ⟨g5, 1, none⟩ = some (.slice X0 l0.length x0) := HE.out.at_ 4 1 rfl rfl
  have xg5_2 : w10.cell? ⟨g5, 2, none⟩ = some (.slice X1 l1.length x1) := HE.out.at_ 4 2 rfl rfl
  have xg5_3 : w10.cell? ⟨g5, 3, none⟩ = some (.bool fl) := HE.out.at_ 4 3 rfl rfl
  have xg3_0 : w10.cell? ⟨g3, 0, none⟩ = some (.int .i64 k) := HE.out.at_ 5 0 rfl rfl
  have xg3_1 : w10.cell? ⟨g3, 1, none⟩ = some (.int .i64 b) := HE.out.at_ 5 1 rfl rfl
  go_wp2_with fail
  refine (died_any t fl _ _ l0 _ _ l1 k b f1 f2 f3 f4 f5 _ (C_front (HE.out.row_ 8 rfl)) (C_front (HE.out.row_ 9 rfl)) HL0.out HL1.out (HE.out.tab HT.out) HF.out).mono ?_
  clear xg5_0 xg5_1 xg5_2 xg5_3 xg3_0 xg3_1
  rintro e w11 ⟨v0, v1, rfl, s0, s1, hB⟩
  have hE := HE.out.rows2 hB rfl s0 s1 11 12 (show ([11, 12, 9, 10, 7, 8, 5, 6, 3, 4, 1, 2] : List Nat).Nodup from by decide) (by decide) (by decide)
  obtain ⟨S0, s0_, rfl⟩ := Kd.R_slice s0
  obtain ⟨S1, s1_, rfl⟩ := Kd.R_slice s1
  clear hB s0 s1 HE
  have HE := Aside0.mk hE
  clear hE
  go_upto_region 7 with fail
  have hE := HE.out.push #[.int .i64 f1, .slice S0 f2.length s0_, .slice S1 f3.length s1_, .bool f4] 24
  obtain ⟨g14, hg⟩ : ∃ g, g = w11.heap.size := ⟨_, rfl⟩
  rw [← hg] at hE ⊢
  generalize w11.alloc (.cells #[.int .i64 f1, .slice S0 f2.length s0_, .slice S1 f3.length s1_, .bool f4] 24) = w12 at hE ⊢
  clear hg HE
  have HE := Aside0.mk hE
  clear hE
  have xg2_0 : w12.cell? ⟨g2, 0, none⟩ = some (.int .i64 t) := HE.out.at_ 7 0 rfl rfl
  have xg2_1 : w12.cell? ⟨g2, 1, none⟩ = some (.slice A0 l0.length c0) := HE.out.at_ 7 1 rfl rfl
  have xg2_2 : w12.cell? ⟨g2, 2, none⟩ = some (.slice A1 l1.length c1) := HE.out.at_ 7 2 rfl rfl
  have xg2_3 : w12.cell? ⟨g2, 3, none⟩ = some (.bool fl) := HE.out.at_ 7 3 rfl rfl
  have xg3_0 : w12.cell? ⟨g3, 0, none⟩ = some (.int .i64 k) := HE.out.at_ 6 0 rfl rfl
  have xg3_1 : w12.cell? ⟨g3, 1, none⟩ = some (.int .i64 b) := HE.out.at_ 6 1 rfl rfl
  go_wp2_with fail
  refine (winnowref19_Died.calls t _ _ l0 _ _ l1 fl k b f1 f2 f3 f4 f5 _ (HE.out.came HC0.out) Hc0.out (HE.out.came HC1.out) Hc1.out (by rw [refDied t l0 l1 fl k b, HF.out])).mono ?_
  clear xg2_0 xg2_1 xg2_2 xg2_3 xg3_0 xg3_1
  rintro e w13 ⟨v0, v1, rfl, s0, s1, hB⟩
  have hE := HE.out.rows2 hB rfl s0 s1 13 14 (show ([13, 14, 11, 12, 9, 10, 7, 8, 5, 6, 3, 4, 1, 2] : List Nat).Nodup from by decide) (by decide) (by decide)
  obtain ⟨T0, t0_, rfl⟩ := Kd.R_slice s0
  obtain ⟨T1, t1_, rfl⟩ := Kd.R_slice s1
  clear hB s0 s1 HE
  have HE := Aside0.mk hE
  clear hE
  go_upto_region 8 with fail
  have hE := HE.out.push #[.int .i64 f1, .slice T0 f2.length t0_, .slice T1 f3.length t1_, .bool f4] 24
  obtain ⟨g16, hg⟩ : ∃ g, g = w13.heap.size := ⟨_, rfl⟩
  rw [← hg] at hE ⊢
  generalize w13.alloc (.cells #[.int .i64 f1, .slice T0 f2.length t0_, .slice T1 f3.length t1_, .bool f4] 24) = w14 at hE ⊢
  clear hg HE
  have HE := Aside0.mk hE
  clear hE
  have xg6_0 : w14.cell? ⟨g6, 0, none⟩ = some (.int .i64 d1) := HE.out.at_ 5 0 rfl rfl
  have xg6_1 : w14.cell? ⟨g6, 1, none⟩ = some (.slice P0 d2.length p0_) := HE.out.at_ 5 1 rfl rfl
  have xg6_2 : w14.cell? ⟨g6, 2, none⟩ = some (.slice P1 d3.length p1_) := HE.out.at_ 5 2 rfl rfl
  have xg6_3 : w14.cell? ⟨g6, 3, none⟩ = some (.bool d4) := HE.out.at_ 5 3 rfl rfl
  have xg8_0 : w14.cell? ⟨g8, 0, none⟩ = some (.int .i64 d1) := HE.out.at_ 4 0 rfl rfl
  have xg8_1 : w14.cell? ⟨g8, 1, none⟩ = some (.slice Q0 d2.length q0_) := HE.out.at_ 4 1 rfl rfl
  have xg8_2 : w14.cell? ⟨g8, 2, none⟩ = some (.slice Q1 d3.length q1_) := HE.out.at_ 4 2 rfl rfl
  have xg8_3 : w14.cell? ⟨g8, 3, none⟩ = some (.bool d4) := HE.out.at_ 4 3 rfl rfl
  have xg10_0 : w14.cell? ⟨g10, 0, none⟩ = some (.int .i64 d1) := HE.out.at_ 3 0 rfl rfl
  have xg10_1 : w14.cell? ⟨g10, 1, none⟩ = some (.slice Z0 d2.length z0_) := HE.out.at_ 3 1 rfl rfl
  have xg10_2 : w14.cell? ⟨g10, 2, none⟩ = some (.slice Z1 d3.length z1_) := HE.out.at_ 3 2 rfl rfl
  have xg10_3 : w14.cell? ⟨g10, 3, none⟩ = some (.bool d4) := HE.out.at_ 3 3 rfl rfl
  go_wp2_with fail
  have hE : Env w _ (⟨3, k38, 38, .slice P0 d2.length p0_, d2⟩ :: ⟨4, k38, 38, .slice P1 d3.length p1_, d3⟩ :: ⟨5, k38, 38, .slice Q0 d2.length q0_, d2⟩ :: ⟨6, k38, 38, .slice Q1 d3.length q1_, d3⟩ :: ⟨7, k38, 38, .slice Z0 d2.length z0_, d2⟩ :: ⟨8, k38, 38, .slice Z1 d3.length z1_, d3⟩ :: ⟨13, k38, 38, .slice T0 f2.length t0_, f2⟩ :: ⟨14, k38, 38, .slice T1 f3.length t1_, f3⟩ :: ⟨11, k38, 38, .slice S0 f2.length s0_, f2⟩ :: ⟨12, k38, 38, .slice S1 f3.length s1_, f3⟩ :: ⟨9, k38, 38, .slice R0 f2.length r0_, f2⟩ :: ⟨10, k38, 38, .slice R1 f3.length r1_, f3⟩ :: ⟨1, k38, 38, .slice X0 (l0 ++ marks).length x0, (l0 ++ marks)⟩ :: ⟨2, k38, 38, .slice X1 (l1 ++ marks).length x1, (l1 ++ marks)⟩ :: []) _ := HE.out.pick [10, 11, 8, 9, 6, 7, 0, 1, 2, 3, 4, 5, 12, 13] (show ([3, 4, 5, 6, 7, 8, 13, 14, 11, 12, 9, 10, 1, 2] : List Nat).Nodup from by decide)
  clear HE
  have HE := Aside0.mk hE
  clear hE
  refine (apart_env d1 d4 HE.out dLEN.out.1 dLEN.out.2).mono ?_
  clear xg6_0 xg6_1 xg6_2 xg6_3 xg8_0 xg8_1 xg8_2 xg8_3 xg10_0 xg10_1 xg10_2 xg10_3
  rintro e w15 ⟨rfl, hE⟩
  clear HE
  have HE := Aside0.mk hE
  clear hE
  have xg12_0 : w15.cell? ⟨g12, 0, none⟩ = some (.int .i64 f1) := HE.out.at_ 2 0 rfl rfl
  have xg12_1 : w15.cell? ⟨g12, 1, none⟩ = some (.slice R0 f2.length r0_) := HE.out.at_ 2 1 rfl rfl
  have xg12_2 : w15.cell? ⟨g12, 2, none⟩ = some (.slice R1 f3.length r1_) := HE.out.at_ 2 2 rfl rfl
  have xg12_3 : w15.cell? ⟨g12, 3, none⟩ = some (.bool f4) := HE.out.at_ 2 3 rfl rfl
  have xg14_0 : w15.cell? ⟨g14, 0, none⟩ = some (.int .i64 f1) := HE.out.at_ 1 0 rfl rfl
  have xg14_1 : w15.cell? ⟨g14, 1, none⟩ = some (.slice S0 f2.length s0_) := HE.out.at_ 1 1 rfl rfl
  have xg14_2 : w15.cell? ⟨g14, 2, none⟩ = some (.slice S1 f3.length s1_) := HE.out.at_ 1 2 rfl rfl
  have xg14_3 : w15.cell? ⟨g14, 3, none⟩ = some (.bool f4) := HE.out.at_ 1 3 rfl rfl
  have xg16_0 : w15.cell? ⟨g16, 0, none⟩ = some (.int .i64 f1) := HE.out.at_ 0 0 rfl rfl
  have xg16_1 : w15.cell? ⟨g16, 1, none⟩ = some (.slice T0 f2.length t0_) := HE.out.at_ 0 1 rfl rfl
  have xg16_2 : w15.cell? ⟨g16, 2, none⟩ = some (.slice T1 f3.length t1_) := HE.out.at_ 0 2 rfl rfl
  have xg16_3 : w15.cell? ⟨g16, 3, none⟩ = some (.bool f4) := HE.out.at_ 0 3 rfl rfl
  go_wp2_with fail
  have hE : Env w _ (⟨9, k38, 38, .slice R0 f2.length r0_, f2⟩ :: ⟨10, k38, 38, .slice R1 f3.length r1_, f3⟩ :: ⟨11, k38, 38, .slice S0 f2.length s0_, f2⟩ :: ⟨12, k38, 38, .slice S1 f3.length s1_, f3⟩ :: ⟨13, k38, 38, .slice T0 f2.length t0_, f2⟩ :: ⟨14, k38, 38, .slice T1 f3.length t1_, f3⟩ :: ⟨1, k38, 38, .slice X0 (l0 ++ marks).length x0, (l0 ++ marks)⟩ :: ⟨2, k38, 38, .slice X1 (l1 ++ marks).length x1, (l1 ++ marks)⟩ :: []) _ := HE.out.pick [4, 5, 2, 3, 0, 1, 6, 7] (show ([9, 10, 11, 12, 13, 14, 1, 2] : List Nat).Nodup from by decide)
  clear HE
  have HE := Aside0.mk hE
  clear hE
  refine (apart_env f1 f4 HE.out fLEN.out.1 fLEN.out.2).mono ?_
  clear xg12_0 xg12_1 xg12_2 xg12_3 xg14_0 xg14_1 xg14_2 xg14_3 xg16_0 xg16_1 xg16_2 xg16_3
  rintro e w16 ⟨rfl, hE⟩
  clear HE
  have HE := Aside0.mk hE
  clear hE
  have xg5_0 : w16.cell? ⟨g5, 0, none⟩ = some (.int .i64 t) := HE.out.at_ 6 0 rfl rfl
  have xg5_1 : w16.cell? ⟨g5, 1, none⟩ = some (.slice X0 l0.length x0) := HE.out.at_ 6 1 rfl rfl
  have xg5_2 : w16.cell? ⟨g5, 2, none⟩ = some (.slice X1 l1.length x1) := HE.out.at_ 6 2 rfl rfl
  have xg5_3 : w16.cell? ⟨g5, 3, none⟩ = some (.bool fl) := HE.out.at_ 6 3 rfl rfl
  have xg2_0 : w16.cell? ⟨g2, 0, none⟩ = some (.int .i64 t) := HE.out.at_ 8 0 rfl rfl
  have xg2_1 : w16.cell? ⟨g2, 1, none⟩ = some (.slice A0 l0.length c0) := HE.out.at_ 8 1 rfl rfl
  have xg2_2 : w16.cell? ⟨g2, 2, none⟩ = some (.slice A1 l1.length c1) := HE.out.at_ 8 2 rfl rfl
  have xg2_3 : w16.cell? ⟨g2, 3, none⟩ = some (.bool fl) := HE.out.at_ 8 3 rfl rfl
  go_wp2_with fail
  refine (kept_any t fl X0 A0 x0 c0 l0 X1 A1 x1 c1 l1 _ (HE.out.row_ 0 rfl) (HE.out.row_ 1 rfl) (C_front (HE.out.row_ 0 rfl)) (C_front (HE.out.row_ 1 rfl)) (HE.out.came HC0.out) (HE.out.came HC1.out) Hx0.out Hx1.out Hc0.out Hc1.out HL0.out HL1.out).mono ?_
  clear xg5_0 xg5_1 xg5_2 xg5_3 xg2_0 xg2_1 xg2_2 xg2_3
  rintro e w17 ⟨rfl, hB⟩
  have hE := HE.out.below hB
  clear HE hB
  have HE := Aside0.mk hE
  clear hE
  go_upto_region 10 with fail
  have xg2_0 : w17.cell? ⟨g2, 0, none⟩ = some (.int .i64 t) := HE.out.at_ 8 0 rfl rfl
  have xg2_1 : w17.cell? ⟨g2, 1, none⟩ = some (.slice A0 l0.length c0) := HE.out.at_ 8 1 rfl rfl
  have xg2_2 : w17.cell? ⟨g2, 2, none⟩ = some (.slice A1 l1.length c1) := HE.out.at_ 8 2 rfl rfl
  have xg2_3 : w17.cell? ⟨g2, 3, none⟩ = some (.bool fl) := HE.out.at_ 8 3 rfl rfl
  go_wp2_with fail
  refine (given_any t fl A0 c0 l0 A1 c1 l1 _ (HE.out.came HC0.out) Hc0.out (HE.out.came HC1.out) Hc1.out HL0.out HL1.out).mono ?_
  clear xg2_0 xg2_1 xg2_2 xg2_3
  rintro e w18 ⟨Y0, y0, Y1, y1, rfl, hx0, hx1, s0, s1, hB⟩
  have hE := HE.out.rows2 hB rfl s0 s1 15 16 (show ([15, 16, 1, 2] : List Nat).Nodup from by decide) (by decide) (by decide)
  have Hy0 := Aside0.mk hx0
  have Hy1 := Aside0.mk hx1
  clear hB s0 s1 HE hx0 hx1
  have HE := Aside0.mk hE
  clear hE
  have hE : Env w _ (⟨15, k38, 38, .slice Y0 (l0 ++ marks).length y0, (l0 ++ marks)⟩ :: ⟨16, k38, 38, .slice Y1 (l1 ++ marks).length y1, (l1 ++ marks)⟩ :: ⟨1, k38, 38, .slice X0 (l0 ++ marks).length x0, (l0 ++ marks)⟩ :: ⟨2, k38, 38, .slice X1 (l1 ++ marks).length x1, (l1 ++ marks)⟩ :: []) _ := HE.out.pick [0, 1, 2, 3] (show ([15, 16, 1, 2] : List Nat).Nodup from by decide)
  clear HE
  have HE := Aside0.mk hE
  clear hE
  have hE := HE.out.front.swap.front.swap
  clear HE
  have HE := Aside0.mk hE
  clear hE
  go_wp2_with fail
  refine (turned_env t fl HE.out HL0.out HL1.out).mono ?_
  rintro e w19 ⟨rfl, hE⟩
  clear HE
  have HE := Aside0.mk hE
  clear hE
  go_upto_region 11 with fail
  have hE := HE.out.push #[.int .i64 t, .slice Y0 l0.length y0, .slice Y1 l1.length y1, .bool fl] 24
  obtain ⟨g18, hg⟩ : ∃ g, g = w19.heap.size := ⟨_, rfl⟩
  rw [← hg] at hE ⊢
  generalize w19.alloc (.cells #[.int .i64 t, .slice Y0 l0.length y0, .slice Y1 l1.length y1, .bool fl] 24) = w20 at hE ⊢
  clear hg HE
  have HE := Aside0.mk hE
  clear hE
  have xg5_0 : w20.cell? ⟨g5, 0, none⟩ = some (.int .i64 t) := HE.out.at_ 7 0 rfl rfl
  have xg5_1 : w20.cell? ⟨g5, 1, none⟩ = some (.slice X0 l0.length x0) := HE.out.at_ 7 1 rfl rfl
  have xg5_2 : w20.cell? ⟨g5, 2, none⟩ = some (.slice X1 l1.length x1) := HE.out.at_ 7 2 rfl rfl
  have xg5_3 : w20.cell? ⟨g5, 3, none⟩ = some (.bool fl) := HE.out.at_ 7 3 rfl rfl
  go_wp2_with fail
  have hE : Env w _ (⟨1, k38, 38, .slice X0 (l0 ++ marks).length x0, (l0 ++ marks)⟩ :: ⟨2, k38, 38, .slice X1 (l1 ++ marks).length x1, (l1 ++ marks)⟩ :: ⟨15, k38, 38, .slice Y0 l0.length y0, (turn l0)⟩ :: ⟨16, k38, 38, .slice Y1 l1.length y1, (turn l1)⟩ :: []) _ := HE.out.pick [2, 3, 0, 1] (show ([1, 2, 15, 16] : List Nat).Nodup from by decide)
  clear HE
  have HE := Aside0.mk hE
  clear hE
  have hE := HE.out.front.swap.front.swap
  clear HE
  have HE := Aside0.mk hE
  clear hE
  refine (turned_env t fl HE.out HL0.out HL1.out).mono ?_
  clear xg5_0 xg5_1 xg5_2 xg5_3
  rintro e w21 ⟨rfl, hE⟩
  clear HE
  have HE := Aside0.mk hE
  clear hE
  go_upto_region 12 with fail
  have xg5_0 : w21.cell? ⟨g5, 0, none⟩ = some (.int .i64 t) := HE.out.at_ 7 0 rfl rfl
  have xg5_1 : w21.cell? ⟨g5, 1, none⟩ = some (.slice X0 l0.length x0) := HE.out.at_ 7 1 rfl rfl
  have xg5_2 : w21.cell? ⟨g5, 2, none⟩ = some (.slice X1 l1.length x1) := HE.out.at_ 7 2 rfl rfl
  have xg5_3 : w21.cell? ⟨g5, 3, none⟩ = some (.bool fl) := HE.out.at_ 7 3 rfl rfl
  have xg3_0 : w21.cell? ⟨g3, 0, none⟩ = some (.int .i64 k) := HE.out.at_ 8 0 rfl rfl
  have xg3_1 : w21.cell? ⟨g3, 1, none⟩ = some (.int .i64 b) := HE.out.at_ 8 1 rfl rfl
  go_wp2_with fail
  have qc := done_any t fl X0 x0 (turn l0) X1 x1 (turn l1) k b p1 p2 p3 p4 p5 _ (HE.out.row_ 0 rfl) (HE.out.row_ 1 rfl) HLT0.out HLT1.out (HE.out.tab HT.out) HP.out
  rw [HTL0.out, HTL1.out] at qc
  refine (qc).mono ?_
  clear xg5_0 xg5_1 xg5_2 xg5_3 xg3_0 xg3_1
  rintro e w22 ⟨v0, v1, rfl, s0, s1, hB⟩
  have hE := HE.out.rows2 hB rfl s0 s1 17 18 (show ([17, 18, 1, 2, 15, 16] : List Nat).Nodup from by decide) (by decide) (by decide)
  obtain ⟨U0, u0_, rfl⟩ := Kd.R_slice s0
  obtain ⟨U1, u1_, rfl⟩ := Kd.R_slice s1
  clear hB s0 s1 HE
  have HE := Aside0.mk hE
  clear hE
  clear qc
  go_upto_region 13 with fail
  have hE := HE.out.push #[.int .i64 p1, .slice U0 p2.length u0_, .slice U1 p3.length u1_, .bool p4] 24
  obtain ⟨g19, hg⟩ : ∃ g, g = w22.heap.size := ⟨_, rfl⟩
  rw [← hg] at hE ⊢
  generalize w22.alloc (.cells #[.int .i64 p1, .slice U0 p2.length u0_, .slice U1 p3.length u1_, .bool p4] 24) = w23 at hE ⊢
  clear hg HE
  have HE := Aside0.mk hE
  clear hE
  have xg18_0 : w23.cell? ⟨g18, 0, none⟩ = some (.int .i64 t) := HE.out.at_ 1 0 rfl rfl
  have xg18_1 : w23.cell? ⟨g18, 1, none⟩ = some (.slice Y0 l0.length y0) := HE.out.at_ 1 1 rfl rfl
  have xg18_2 : w23.cell? ⟨g18, 2, none⟩ = some (.slice Y1 l1.length y1) := HE.out.at_ 1 2 rfl rfl
  have xg18_3 : w23.cell? ⟨g18, 3, none⟩ = some (.bool fl) := HE.out.at_ 1 3 rfl rfl
  have xg3_0 : w23.cell? ⟨g3, 0, none⟩ = some (.int .i64 k) := HE.out.at_ 9 0 rfl rfl
  have xg3_1 : w23.cell? ⟨g3, 1, none⟩ = some (.int .i64 b) := HE.out.at_ 9 1 rfl rfl
  go_wp2_with fail
  have qc := winnowref19_Done.calls t Y0 y0 (turn l0) Y1 y1 (turn l1) fl k b p1 p2 p3 p4 p5 _ (HE.out.row_ 4 rfl) (by rw [HTL0.out]; have := Hy0.out; omega) (HE.out.row_ 5 rfl) (by rw [HTL1.out]; have := Hy1.out; omega) (by rw [refDone t _ _ fl k b, HP.out])
  rw [HTL0.out, HTL1.out] at qc
  refine (qc).mono ?_
  clear xg18_0 xg18_1 xg18_2 xg18_3 xg3_0 xg3_1
  rintro e w24 ⟨v0, v1, rfl, s0, s1, hB⟩
  have hE := HE.out.rows2 hB rfl s0 s1 19 20 (show ([19, 20, 17, 18, 1, 2, 15, 16] : List Nat).Nodup from by decide) (by decide) (by decide)
  obtain ⟨V0, v0_, rfl⟩ := Kd.R_slice s0
  obtain ⟨V1, v1_, rfl⟩ := Kd.R_slice s1
  clear hB s0 s1 HE
  have HE := Aside0.mk hE
  clear hE
  clear qc
  go_upto_region 14 with fail
  have hE := HE.out.push #[.int .i64 p1, .slice V0 p2.length v0_, .slice V1 p3.length v1_, .bool p4] 24
  obtain ⟨g21, hg⟩ : ∃ g, g = w24.heap.size := ⟨_, rfl⟩
  rw [← hg] at hE ⊢
  generalize w24.alloc (.cells #[.int .i64 p1, .slice V0 p2.length v0_, .slice V1 p3.length v1_, .bool p4] 24) = w25 at hE ⊢
  clear hg HE
  have HE := Aside0.mk hE
  clear hE
  have xg5_0 : w25.cell? ⟨g5, 0, none⟩ = some (.int .i64 t) := HE.out.at_ 9 0 rfl rfl
  have xg5_1 : w25.cell? ⟨g5, 1, none⟩ = some (.slice X0 l0.length x0) := HE.out.at_ 9 1 rfl rfl
  have xg5_2 : w25.cell? ⟨g5, 2, none⟩ = some (.slice X1 l1.length x1) := HE.out.at_ 9 2 rfl rfl
  have xg5_3 : w25.cell? ⟨g5, 3, none⟩ = some (.bool fl) := HE.out.at_ 9 3 rfl rfl
  have xg3_0 : w25.cell? ⟨g3, 0, none⟩ = some (.int .i64 k) := HE.out.at_ 10 0 rfl rfl
  have xg3_1 : w25.cell? ⟨g3, 1, none⟩ = some (.int .i64 b) := HE.out.at_ 10 1 rfl rfl
  go_wp2_with fail
  have qc := died_any t fl X0 x0 (turn l0) X1 x1 (turn l1) k b q1 q2 q3 q4 q5 _ (HE.out.row_ 4 rfl) (HE.out.row_ 5 rfl) HLT0.out HLT1.out (HE.out.tab HT.out) HQ.out
  rw [HTL0.out, HTL1.out] at qc
  refine (qc).mono ?_
  clear xg5_0 xg5_1 xg5_2 xg5_3 xg3_0 xg3_1
  rintro e w26 ⟨v0, v1, rfl, s0, s1, hB⟩
  have hE := HE.out.rows2 hB rfl s0 s1 21 22 (show ([21, 22, 19, 20, 17, 18, 1, 2, 15, 16] : List Nat).Nodup from by decide) (by decide) (by decide)
  obtain ⟨M0, m0_, rfl⟩ := Kd.R_slice s0
  obtain ⟨M1, m1_, rfl⟩ := Kd.R_slice s1
  clear hB s0 s1 HE
  have HE := Aside0.mk hE
  clear hE
  clear qc
  go_upto_region 15 with fail
  have hE := HE.out.push #[.int .i64 q1, .slice M0 q2.length m0_, .slice M1 q3.length m1_, .bool q4] 24
  obtain ⟨g23, hg⟩ : ∃ g, g = w26.heap.size := ⟨_, rfl⟩
  rw [← hg] at hE ⊢
  generalize w26.alloc (.cells #[.int .i64 q1, .slice M0 q2.length m0_, .slice M1 q3.length m1_, .bool q4] 24) = w27 at hE ⊢
  clear hg HE
  have HE := Aside0.mk hE
  clear hE
  have xg18_0 : w27.cell? ⟨g18, 0, none⟩ = some (.int .i64 t) := HE.out.at_ 3 0 rfl rfl
  have xg18_1 : w27.cell? ⟨g18, 1, none⟩ = some (.slice Y0 l0.length y0) := HE.out.at_ 3 1 rfl rfl
  have xg18_2 : w27.cell? ⟨g18, 2, none⟩ = some (.slice Y1 l1.length y1) := HE.out.at_ 3 2 rfl rfl
  have xg18_3 : w27.cell? ⟨g18, 3, none⟩ = some (.bool fl) := HE.out.at_ 3 3 rfl rfl
  have xg3_0 : w27.cell? ⟨g3, 0, none⟩ = some (.int .i64 k) := HE.out.at_ 11 0 rfl rfl
  have xg3_1 : w27.cell? ⟨g3, 1, none⟩ = some (.int .i64 b) := HE.out.at_ 11 1 rfl rfl
  go_wp2_with fail
  have qc := winnowref19_Died.calls t Y0 y0 (turn l0) Y1 y1 (turn l1) fl k b q1 q2 q3 q4 q5 _ (HE.out.row_ 8 rfl) (by rw [HTL0.out]; have := Hy0.out; omega) (HE.out.row_ 9 rfl) (by rw [HTL1.out]; have := Hy1.out; omega) (by rw [refDied t _ _ fl k b, HQ.out])
  rw [HTL0.out, HTL1.out] at qc
  refine (qc).mono ?_
  clear xg18_0 xg18_1 xg18_2 xg18_3 xg3_0 xg3_1
  rintro e w28 ⟨v0, v1, rfl, s0, s1, hB⟩
  have hE := HE.out.rows2 hB rfl s0 s1 23 24 (show ([23, 24, 21, 22, 19, 20, 17, 18, 1, 2, 15, 16] : List Nat).Nodup from by decide) (by decide) (by decide)
  obtain ⟨N0, n0_, rfl⟩ := Kd.R_slice s0
  obtain ⟨N1, n1_, rfl⟩ := Kd.R_slice s1
  clear hB s0 s1 HE
  have HE := Aside0.mk hE
  clear hE
  clear qc
  go_upto_region 16 with fail
  have hE := HE.out.push #[.int .i64 q1, .slice N0 q2.length n0_, .slice N1 q3.length n1_, .bool q4] 24
  obtain ⟨g25, hg⟩ : ∃ g, g = w28.heap.size := ⟨_, rfl⟩
  rw [← hg] at hE ⊢
  generalize w28.alloc (.cells #[.int .i64 q1, .slice N0 q2.length n0_, .slice N1 q3.length n1_, .bool q4] 24) = w29 at hE ⊢
  clear hg HE
  have HE := Aside0.mk hE
  clear hE
  have xg19_0 : w29.cell? ⟨g19, 0, none⟩ = some (.int .i64 p1) := HE.out.at_ 3 0 rfl rfl
  have xg19_1 : w29.cell? ⟨g19, 1, none⟩ = some (.slice U0 p2.length u0_) := HE.out.at_ 3 1 rfl rfl
  have xg19_2 : w29.cell? ⟨g19, 2, none⟩ = some (.slice U1 p3.length u1_) := HE.out.at_ 3 2 rfl rfl
  have xg19_3 : w29.cell? ⟨g19, 3, none⟩ = some (.bool p4) := HE.out.at_ 3 3 rfl rfl
  have xg21_0 : w29.cell? ⟨g21, 0, none⟩ = some (.int .i64 p1) := HE.out.at_ 2 0 rfl rfl
  have xg21_1 : w29.cell? ⟨g21, 1, none⟩ = some (.slice V0 p2.length v0_) := HE.out.at_ 2 1 rfl rfl
  have xg21_2 : w29.cell? ⟨g21, 2, none⟩ = some (.slice V1 p3.length v1_) := HE.out.at_ 2 2 rfl rfl
  have xg21_3 : w29.cell? ⟨g21, 3, none⟩ = some (.bool p4) := HE.out.at_ 2 3 rfl rfl
  go_wp2_with fail
  have q := winnowlaw19_same.calls (p2.length + p3.length + 1) p1 _ _ p2 _ _ p3 p4 p1 _ _ p2 _ _ p3 p4 true _ (HE.out.row_ 6 rfl) (HE.out.cap_ 6 rfl).2 (HE.out.row_ 7 rfl) (HE.out.cap_ 7 rfl).2 (HE.out.row_ 4 rfl) (HE.out.cap_ 4 rfl).2 (HE.out.row_ 5 rfl) (HE.out.cap_ 5 rfl).2 (same_book p1 p4 p2 p3 (by have := pLEN.out.1; omega) (by have := pLEN.out.2; omega) _ (by omega) (by omega))
  refine q.mono ?_
  clear xg19_0 xg19_1 xg19_2 xg19_3 xg21_0 xg21_1 xg21_2 xg21_3
  clear q
  rintro e w30 ⟨rfl, hB⟩
  have hE := HE.out.below hB
  clear HE hB
  have HE := Aside0.mk hE
  clear hE
  have xg23_0 : w30.cell? ⟨g23, 0, none⟩ = some (.int .i64 q1) := HE.out.at_ 1 0 rfl rfl
  have xg23_1 : w30.cell? ⟨g23, 1, none⟩ = some (.slice M0 q2.length m0_) := HE.out.at_ 1 1 rfl rfl
  have xg23_2 : w30.cell? ⟨g23, 2, none⟩ = some (.slice M1 q3.length m1_) := HE.out.at_ 1 2 rfl rfl
  have xg23_3 : w30.cell? ⟨g23, 3, none⟩ = some (.bool q4) := HE.out.at_ 1 3 rfl rfl
  have xg25_0 : w30.cell? ⟨g25, 0, none⟩ = some (.int .i64 q1) := HE.out.at_ 0 0 rfl rfl
  have xg25_1 : w30.cell? ⟨g25, 1, none⟩ = some (.slice N0 q2.length n0_) := HE.out.at_ 0 1 rfl rfl
  have xg25_2 : w30.cell? ⟨g25, 2, none⟩ = some (.slice N1 q3.length n1_) := HE.out.at_ 0 2 rfl rfl
  have xg25_3 : w30.cell? ⟨g25, 3, none⟩ = some (.bool q4) := HE.out.at_ 0 3 rfl rfl
  go_wp2_with fail
  have q := winnowlaw19_same.calls (q2.length + q3.length + 1) q1 _ _ q2 _ _ q3 q4 q1 _ _ q2 _ _ q3 q4 true _ (HE.out.row_ 2 rfl) (HE.out.cap_ 2 rfl).2 (HE.out.row_ 3 rfl) (HE.out.cap_ 3 rfl).2 (HE.out.row_ 0 rfl) (HE.out.cap_ 0 rfl).2 (HE.out.row_ 1 rfl) (HE.out.cap_ 1 rfl).2 (same_book q1 q4 q2 q3 (by have := qLEN.out.1; omega) (by have := qLEN.out.2; omega) _ (by omega) (by omega))
  refine q.mono ?_
  clear xg23_0 xg23_1 xg23_2 xg23_3 xg25_0 xg25_1 xg25_2 xg25_3
  clear q
  rintro e w31 ⟨rfl, hB⟩
  have hE := HE.out.below hB
  clear HE hB
  have HE := Aside0.mk hE
  clear hE
  go_wp2_with fail
  go_ret
  exact ⟨by first | rfl | simp, HE.out.out⟩
/-- The law as a function with a contract: true of whatever is not too long. -/
def winnowlaw19_LedgerEnds.f (a0_0 : Int) (l0_1 l0_2 : List S38) (a0_3 : Bool) (a1_0 : Int) (a1_1 : Int) : Option Bool := if small l0_1 l0_2 then some true else none
theorem winnowlaw19_LedgerEnds.calls (a0_0 : Int) (A0_1 : Option Addr) (c0_1 : Nat) (l0_1 : List S38) (A0_2 : Option Addr) (c0_2 : Nat) (l0_2 : List S38) (a0_3 : Bool) (a1_0 : Int) (a1_1 : Int) (r : Bool) (w : World) (hr0_1 : Kd.C k38 w A0_1 l0_1.length l0_1) (hc0_1 : l0_1.length ≤ c0_1) (hr0_2 : Kd.C k38 w A0_2 l0_2.length l0_2) (hc0_2 : l0_2.length ≤ c0_2) (h : winnowlaw19_LedgerEnds.f a0_0 l0_1 l0_2 a0_3 a1_0 a1_1 = some r) (hTAB_ : Tab w) :
    Calls Tryd.prog 4 #[.agg #[.int .i64 a0_0, .slice A0_1 l0_1.length c0_1, .slice A0_2 l0_2.length c0_2, .bool a0_3], .agg #[.int .i64 a1_0, .int .i64 a1_1]] w fun e w' => e = .returned (.bool r) ∧ Below w.heap.size w w' := by
  unfold winnowlaw19_LedgerEnds.f at h
  by_cases hs : small l0_1 l0_2
  · rw [if_pos hs] at h
    injection h with h
    subst h
    exact LedgerEnds_walk a0_0 A0_1 c0_1 l0_1 A0_2 c0_2 l0_2 a0_3 a1_0 a1_1 w hr0_1 hc0_1 hr0_2 hc0_2 hs.1 hs.2 hTAB_
  · rw [if_neg hs] at h
    cases h
end Go.Proofs.YtponmfnegdlppaaDoor.P

end
