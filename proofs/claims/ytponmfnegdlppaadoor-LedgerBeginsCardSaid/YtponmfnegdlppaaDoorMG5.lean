/- Several texts laid together (wip/tools/merge2.py): Pf29, RefC, HBegins. -/
import Derived.Test.YtponmfnegdlppaaDoorMG1
import Derived.Test.YtponmfnegdlppaaDoorMG3
import Derived.Test.YtponmfnegdlppaaDoorMG2
import Derived.Test.YtponmfnegdlppaaDoorMG4
import Derived.Outline
import Derived.Deep.DeepCutAuto
section
-- Written by a program of this session (wip/tools/hprint.py, over the kit's printer), not by hand. Lean checks it.
namespace Go.Proofs.YtponmfnegdlppaaDoor.P
open Go.RowKit Go.Proofs.YtponmfnegdlppaaDoorW.PrintWords Go.Proofs.YtponmfnegdlppaaDoorW.PrintLast Go.Proofs.YtponmfnegdlppaaDoorW.PrintMore
attribute [local go_sem] max2_int min2_int max_two min_two max_three min_three max_four min_four
set_option linter.unusedVariables false
set_option linter.unusedSimpArgs false

/-! ### winnowref19_Begin: function 29 -/
def winnowref19_Begin.j0 : Nat → Bool → Int → List (S38) → List (S38) → Bool → Int → Int → Int → Int → Int → Option (Int × (List (S38)) × (List (S38)) × Bool × Int × Bool × Int)
  | 0, _, _, _, _, _, _, _, _, _, _ => none
  | k + 1, x43, x362000, x362001, x362002, x362003, x363000, x363001, x369000, x369001, x369002 => if x43 = true then (some (0, ([] : List (S38)), ([] : List (S38)), false, 0, false, 192)) else (if x369000 = 0 then ((winnowref19_with.f x362000 x362001 x362002 x362003 x363000 x363001 1 (wrap64 (x369001 + 1)) x369002).bind fun bt371 => (some (bt371.1, bt371.2.1, bt371.2.2.1, bt371.2.2.2, wrap64 (x369001 + 1), (x369000 == 0), 0))) else ((winnowref19_with.f x362000 x362001 x362002 x362003 x363000 x363001 1 x369001 x369002).bind fun bt379 => (some (bt379.1, bt379.2.1, bt379.2.2.1, bt379.2.2.2, x369001, (x369000 == 0), 0))))
def winnowref19_Begin.f (k : Nat) (a0_0 : Int) (l0_1 : List (S38)) (l0_2 : List (S38)) (a0_3 : Bool) (a1_0 : Int) (a1_1 : Int) : Option (Int × (List (S38)) × (List (S38)) × Bool × Int × Bool × Int) := (winnowref19_refusal.f a0_0 l0_1 l0_2 a0_3 a1_0 a1_1).bind fun t364 => (if t364 = 0 then ((winnowref19_at.f a0_0 l0_1 l0_2 a0_3 a1_0 a1_1).bind fun bt365 => (if a0_3 = true then (winnowref19_Begin.j0 k true a0_0 l0_1 l0_2 a0_3 a1_0 a1_1 bt365.1 bt365.2.1 bt365.2.2) else (if bt365.1 = 0 then (if a1_0 = 1 then ((winnowref19_all.f k l0_1).bind fun t369 => (winnowref19_Begin.j0 k (!t369) a0_0 l0_1 l0_2 a0_3 a1_0 a1_1 bt365.1 bt365.2.1 bt365.2.2)) else (winnowref19_Begin.j0 k false a0_0 l0_1 l0_2 a0_3 a1_0 a1_1 bt365.1 bt365.2.1 bt365.2.2)) else (if bt365.1 = 2 then (if a1_0 = 1 then ((winnowref19_all.f k l0_1).bind fun t370 => (winnowref19_Begin.j0 k (!t370) a0_0 l0_1 l0_2 a0_3 a1_0 a1_1 bt365.1 bt365.2.1 bt365.2.2)) else (winnowref19_Begin.j0 k false a0_0 l0_1 l0_2 a0_3 a1_0 a1_1 bt365.1 bt365.2.1 bt365.2.2)) else (winnowref19_Begin.j0 k true a0_0 l0_1 l0_2 a0_3 a1_0 a1_1 bt365.1 bt365.2.1 bt365.2.2))))) else (some (0, ([] : List (S38)), ([] : List (S38)), false, 0, false, t364)))
theorem winnowref19_Begin.mono_l : ∀ k, (∀ y0 y1 y2 y3 y4 y5 y6 y7 y8 y9, LeO (winnowref19_Begin.j0 k y0 y1 y2 y3 y4 y5 y6 y7 y8 y9) (winnowref19_Begin.j0 (k + 1) y0 y1 y2 y3 y4 y5 y6 y7 y8 y9))
  | 0 => fun _ _ _ _ _ _ _ _ _ _ r h => by simp [winnowref19_Begin.j0] at h
  | k + 1 => by
    have ih0 := winnowref19_Begin.mono_l k
    · intro y0 y1 y2 y3 y4 y5 y6 y7 y8 y9
      unfold winnowref19_Begin.j0
      repeat' first
      | (with_reducible exact ih0 _ _ _ _ _ _ _ _ _ _)
      | (with_reducible exact winnowref19_all.mono _ _)
      | (with_reducible exact LeO.refl _)
      | (with_reducible exact LeO.none _)
      | (with_reducible refine LeO.ite ?_ ?_)
      | (with_reducible refine LeO.bind ?_ (fun _ => ?_))
      | exact ih0 _ _ _ _ _ _ _ _ _ _
      | exact winnowref19_all.mono _ _
      | exact LeO.none _
      | refine LeO.ite ?_ ?_
      | refine LeO.bind ?_ (fun _ => ?_)
theorem winnowref19_Begin.mono : ∀ a0 a1 a2 a3 a4 a5 k, LeO (winnowref19_Begin.f k a0 a1 a2 a3 a4 a5) (winnowref19_Begin.f (k + 1) a0 a1 a2 a3 a4 a5) := by
  intro a0 a1 a2 a3 a4 a5 k
  have ih0 := winnowref19_Begin.mono_l k
  unfold winnowref19_Begin.f
  repeat' first
      | (with_reducible exact ih0 _ _ _ _ _ _ _ _ _ _)
      | (with_reducible exact winnowref19_all.mono _ _)
      | (with_reducible exact LeO.refl _)
      | (with_reducible exact LeO.none _)
      | (with_reducible refine LeO.ite ?_ ?_)
      | (with_reducible refine LeO.bind ?_ (fun _ => ?_))
      | exact ih0 _ _ _ _ _ _ _ _ _ _
      | exact winnowref19_all.mono _ _
      | exact LeO.none _
      | refine LeO.ite ?_ ?_
      | refine LeO.bind ?_ (fun _ => ?_)
def winnowref19_Begin.T11 : Bool × List (List Nat × List Nat) := (true, [([], []), ([], []), ([], []), ([0, 1, 2], [0, 1, 2]), ([], []), ([4], [4]), ([], []), ([3, 3, 0, 1, 2, 3], [3]), ([5, 7, 0, 1, 2, 3, 4, 5, 7], [5]), ([6, 8, 0, 1, 2, 3, 4, 5, 6, 7, 8], [6]), ([9, 0, 1, 2, 3, 4, 5, 6, 7, 8, 9], [])])
def winnowref19_Begin.B11 : List Nat := [0, 0, 0, 7, 0, 16, 0, 15, 191, 511, 1023]
theorem winnowref19_Begin.tab11 : rtab .any (opsOf Tryd.f29 11) = winnowref19_Begin.T11 := by kernel_rfl
theorem winnowref19_Begin.bits11 : waitsOk winnowref19_Begin.T11.2 winnowref19_Begin.B11 = true := by kernel_rfl
set_option maxHeartbeats 8000000 in
set_option maxRecDepth 100000 in
theorem winnowref19_Begin.calls (k : Nat) (a0_0 : Int) (A0_1 : Option Addr) (c0_1 : Nat) (l0_1 : List (S38)) (A0_2 : Option Addr) (c0_2 : Nat) (l0_2 : List (S38)) (a0_3 : Bool) (a1_0 : Int) (a1_1 : Int) (r1 : Int) (r2 : List (S38)) (r3 : List (S38)) (r4 : Bool) (r5 : Int) (r6 : Bool) (r7 : Int) (w : World) (hr0_1 : Kd.C k38 w A0_1 l0_1.length l0_1) (hc0_1 : l0_1.length ≤ c0_1) (hr0_2 : Kd.C k38 w A0_2 l0_2.length l0_2) (hc0_2 : l0_2.length ≤ c0_2) (h : winnowref19_Begin.f k a0_0 l0_1 l0_2 a0_3 a1_0 a1_1 = some (r1, r2, r3, r4, r5, r6, r7)) :
    Calls Tryd.prog 29 #[.agg #[.int .i64 a0_0, .slice A0_1 l0_1.length c0_1, .slice A0_2 l0_2.length c0_2, .bool a0_3], .agg #[.int .i64 a1_0, .int .i64 a1_1]] w fun e w' => ∃ v1_ v2_ : Value, e = .returned (.tuple #[.agg #[.int .i64 r1, v1_, v2_, .bool r4], .int .i64 r5, .bool r6, .int .i64 r7]) ∧ Kd.R k38 38 w' w.heap.size (fun k_ => some k_ ≠ (v2_ : Value).ownBlock) v1_ r2 ∧ Kd.R k38 38 w' w.heap.size (fun k_ => some k_ ≠ (v1_ : Value).ownBlock) v2_ r3 ∧ Below w.heap.size w w' := by
  have hu24 := Tryd.underlying24
  have hu29 := Tryd.underlying29
  have hu38 := Tryd.underlying38
  have HR0_1 := Aside0.mk hr0_1
  have HC0_1 := Aside0.mk hc0_1
  clear hr0_1 hc0_1
  have HR0_2 := Aside0.mk hr0_2
  have HC0_2 := Aside0.mk hc0_2
  clear hr0_2 hc0_2
  have HB := Aside0.mk (Below.refl w.heap.size w)
  have H : ((winnowref19_refusal.f a0_0 l0_1 l0_2 a0_3 a1_0 a1_1).bind fun t364 => (if t364 = 0 then ((winnowref19_at.f a0_0 l0_1 l0_2 a0_3 a1_0 a1_1).bind fun bt365 => (if a0_3 = true then (winnowref19_Begin.j0 k true a0_0 l0_1 l0_2 a0_3 a1_0 a1_1 bt365.1 bt365.2.1 bt365.2.2) else (if bt365.1 = 0 then (if a1_0 = 1 then ((winnowref19_all.f k l0_1).bind fun t369 => (winnowref19_Begin.j0 k (!t369) a0_0 l0_1 l0_2 a0_3 a1_0 a1_1 bt365.1 bt365.2.1 bt365.2.2)) else (winnowref19_Begin.j0 k false a0_0 l0_1 l0_2 a0_3 a1_0 a1_1 bt365.1 bt365.2.1 bt365.2.2)) else (if bt365.1 = 2 then (if a1_0 = 1 then ((winnowref19_all.f k l0_1).bind fun t370 => (winnowref19_Begin.j0 k (!t370) a0_0 l0_1 l0_2 a0_3 a1_0 a1_1 bt365.1 bt365.2.1 bt365.2.2)) else (winnowref19_Begin.j0 k false a0_0 l0_1 l0_2 a0_3 a1_0 a1_1 bt365.1 bt365.2.1 bt365.2.2)) else (winnowref19_Begin.j0 k true a0_0 l0_1 l0_2 a0_3 a1_0 a1_1 bt365.1 bt365.2.1 bt365.2.2))))) else (some (0, ([] : List (S38)), ([] : List (S38)), false, 0, false, t364)))) = some (r1, r2, r3, r4, r5, r6, r7) := h
  clear h
  replace H := Option.bind_eq_some_iff.mp H
  obtain ⟨t364, A30, H⟩ := H
  replace H : (if t364 = 0 then ((winnowref19_at.f a0_0 l0_1 l0_2 a0_3 a1_0 a1_1).bind fun bt365 => (if a0_3 = true then (winnowref19_Begin.j0 k true a0_0 l0_1 l0_2 a0_3 a1_0 a1_1 bt365.1 bt365.2.1 bt365.2.2) else (if bt365.1 = 0 then (if a1_0 = 1 then ((winnowref19_all.f k l0_1).bind fun t369 => (winnowref19_Begin.j0 k (!t369) a0_0 l0_1 l0_2 a0_3 a1_0 a1_1 bt365.1 bt365.2.1 bt365.2.2)) else (winnowref19_Begin.j0 k false a0_0 l0_1 l0_2 a0_3 a1_0 a1_1 bt365.1 bt365.2.1 bt365.2.2)) else (if bt365.1 = 2 then (if a1_0 = 1 then ((winnowref19_all.f k l0_1).bind fun t370 => (winnowref19_Begin.j0 k (!t370) a0_0 l0_1 l0_2 a0_3 a1_0 a1_1 bt365.1 bt365.2.1 bt365.2.2)) else (winnowref19_Begin.j0 k false a0_0 l0_1 l0_2 a0_3 a1_0 a1_1 bt365.1 bt365.2.1 bt365.2.2)) else (winnowref19_Begin.j0 k true a0_0 l0_1 l0_2 a0_3 a1_0 a1_1 bt365.1 bt365.2.1 bt365.2.2))))) else (some (0, ([] : List (S38)), ([] : List (S38)), false, 0, false, t364))) = some (r1, r2, r3, r4, r5, r6, r7) := H
  have A3 := Aside0.mk A30
  clear A30
  by_cases c4 : t364 = 0
  · rw [if_pos c4] at H
    have c4b0 : (t364 == 0) = true := beq_iff_eq.mpr c4
    have c4b1 : (t364 != 0) = false := bne_eq_false_iff_eq.mpr c4
    clear c4
    replace H := Option.bind_eq_some_iff.mp H
    obtain ⟨⟨t365, t366, t367⟩, A50, H⟩ := H
    replace H : (if a0_3 = true then (winnowref19_Begin.j0 k true a0_0 l0_1 l0_2 a0_3 a1_0 a1_1 t365 t366 t367) else (if t365 = 0 then (if a1_0 = 1 then ((winnowref19_all.f k l0_1).bind fun t369 => (winnowref19_Begin.j0 k (!t369) a0_0 l0_1 l0_2 a0_3 a1_0 a1_1 t365 t366 t367)) else (winnowref19_Begin.j0 k false a0_0 l0_1 l0_2 a0_3 a1_0 a1_1 t365 t366 t367)) else (if t365 = 2 then (if a1_0 = 1 then ((winnowref19_all.f k l0_1).bind fun t370 => (winnowref19_Begin.j0 k (!t370) a0_0 l0_1 l0_2 a0_3 a1_0 a1_1 t365 t366 t367)) else (winnowref19_Begin.j0 k false a0_0 l0_1 l0_2 a0_3 a1_0 a1_1 t365 t366 t367)) else (winnowref19_Begin.j0 k true a0_0 l0_1 l0_2 a0_3 a1_0 a1_1 t365 t366 t367)))) = some (r1, r2, r3, r4, r5, r6, r7) := H
    have A5 := Aside0.mk A50
    clear A50
    have HC6 := Aside0.mk H
    clear H
    go_enter Tryd.func29, Tryd.ntmps29
    go_upto_region 5 with (first | ((with_reducible refine gate_dst (N := 2) rfl ?_); refine box_event ?hg (N := 2) ?hd (cs := #[.int .i64 a0_0, .slice A0_1 l0_1.length c0_1, .slice A0_2 l0_2.length c0_2, .bool a0_3]) (t := 24) ?hr ?_; (case hd => rfl); (case hg => rfl); (case hr => first | (go_simp; done) | (go_simp; rfl)); intro gb361 hg w7 hbox hb; have n0_ := Aside0.mk (below_step (by repeat (first | (with_reducible first | exact HB.out | apply below_alloc | apply pw_below_drewN | apply below_drew1) | exact HB.out)) hb); have n1_ := Aside0.mk (hbox); have n2_ := Aside0.mk ((by rw [hg]; exact (below_size (by repeat (first | (with_reducible first | exact HB.out | apply below_alloc | apply pw_below_drewN | apply below_drew1) | exact HB.out))) : w.heap.size ≤ gb361)); have n3_ := Aside0.mk ((by rw [hg]; exact (below_size (by repeat (first | (with_reducible first | exact HB.out | apply below_alloc | apply pw_below_drewN | apply below_drew1) | exact HB.out))) : w.heap.size ≤ gb361)); clear HB; have HB := n0_; have BK361 := n1_; have GW361 := n2_; have GE361 := n3_; clear n0_ n1_ n2_ n3_; clear hb hbox hg) | ((with_reducible refine gate_dst (N := 3) rfl ?_); refine box_event ?hg (N := 3) ?hd (cs := #[.int .i64 a1_0, .int .i64 a1_1]) (t := 29) ?hr ?_; (case hd => rfl); (case hg => rfl); (case hr => first | (go_simp; done) | (go_simp; rfl)); intro gb362 hg w8 hbox hb; have n0_ := Aside0.mk (blk_below (g := gb361) (o := .cells #[.int .i64 a0_0, .slice A0_1 l0_1.length c0_1, .slice A0_2 l0_2.length c0_2, .bool a0_3] 24 (0, 0)) (by (with_reducible repeat (first | refine blk_drewN ?_ _ | refine blk_drew ?_ | refine blk_alloc ?_ _)); exact BK361.out) hb); have n1_ := Aside0.mk (below_step (by repeat (first | (with_reducible first | exact HB.out | apply below_alloc | apply pw_below_drewN | apply below_drew1 | refine below_set ?_ GE361.out) | exact HB.out)) hb); have n2_ := Aside0.mk (hbox); have n3_ := Aside0.mk ((by rw [hg]; exact (below_size (by repeat (first | (with_reducible first | exact HB.out | apply below_alloc | apply pw_below_drewN | apply below_drew1 | refine below_set ?_ GE361.out) | exact HB.out))) : w.heap.size ≤ gb362)); have n4_ := Aside0.mk ((by rw [hg]; exact (below_size (by repeat (first | (with_reducible first | exact HB.out | apply below_alloc | apply pw_below_drewN | apply below_drew1 | refine below_set ?_ GE361.out) | exact HB.out))) : w.heap.size ≤ gb362)); have n5_ := Aside0.mk ((by rw [hg]; exact Nat.ne_of_lt (blk_lt (g := gb361) (o := .cells #[.int .i64 a0_0, .slice A0_1 l0_1.length c0_1, .slice A0_2 l0_2.length c0_2, .bool a0_3] 24 (0, 0)) (by (with_reducible repeat (first | refine blk_drewN ?_ _ | refine blk_drew ?_ | refine blk_alloc ?_ _)); exact BK361.out)) : gb361 ≠ gb362)); have n6_ := Aside0.mk ((by rw [hg]; exact Nat.ne_of_gt (blk_lt (g := gb361) (o := .cells #[.int .i64 a0_0, .slice A0_1 l0_1.length c0_1, .slice A0_2 l0_2.length c0_2, .bool a0_3] 24 (0, 0)) (by (with_reducible repeat (first | refine blk_drewN ?_ _ | refine blk_drew ?_ | refine blk_alloc ?_ _)); exact BK361.out)) : gb362 ≠ gb361)); clear BK361; clear HB; have BK361 := n0_; have HB := n1_; have BK362 := n2_; have GW362 := n3_; have GE362 := n4_; have NB361_362 := n5_; have NB362_361 := n6_; clear n0_ n1_ n2_ n3_ n4_ n5_ n6_; clear hb hbox hg) | ((with_reducible refine gate_dst (N := 4) rfl ?_); refine box_event ?hg (N := 4) ?hd (cs := #[.int .i64 0, .slice none 0 0, .slice none 0 0, .bool false]) (t := 24) ?hr ?_; (case hd => rfl); (case hg => rfl); (case hr => first | (go_simp; done) | (go_simp; rfl)); intro gb363 hg w9 hbox hb; have n0_ := Aside0.mk (blk_below (g := gb361) (o := .cells #[.int .i64 a0_0, .slice A0_1 l0_1.length c0_1, .slice A0_2 l0_2.length c0_2, .bool a0_3] 24 (0, 0)) (by (with_reducible repeat (first | refine blk_drewN ?_ _ | refine blk_drew ?_ | refine blk_alloc ?_ _)); exact BK361.out) hb); have n1_ := Aside0.mk (blk_below (g := gb362) (o := .cells #[.int .i64 a1_0, .int .i64 a1_1] 29 (0, 0)) (by (with_reducible repeat (first | refine blk_drewN ?_ _ | refine blk_drew ?_ | refine blk_alloc ?_ _)); exact BK362.out) hb); have n2_ := Aside0.mk (below_step (by repeat (first | (with_reducible first | exact HB.out | apply below_alloc | apply pw_below_drewN | apply below_drew1 | refine below_set ?_ GE361.out | refine below_set ?_ GE362.out) | exact HB.out)) hb); have n3_ := Aside0.mk (hbox); have n4_ := Aside0.mk ((by rw [hg]; exact (below_size (by repeat (first | (with_reducible first | exact HB.out | apply below_alloc | apply pw_below_drewN | apply below_drew1 | refine below_set ?_ GE361.out | refine below_set ?_ GE362.out) | exact HB.out))) : w.heap.size ≤ gb363)); have n5_ := Aside0.mk ((by rw [hg]; exact (below_size (by repeat (first | (with_reducible first | exact HB.out | apply below_alloc | apply pw_below_drewN | apply below_drew1 | refine below_set ?_ GE361.out | refine below_set ?_ GE362.out) | exact HB.out))) : w.heap.size ≤ gb363)); have n6_ := Aside0.mk ((by rw [hg]; exact Nat.ne_of_lt (blk_lt (g := gb361) (o := .cells #[.int .i64 a0_0, .slice A0_1 l0_1.length c0_1, .slice A0_2 l0_2.length c0_2, .bool a0_3] 24 (0, 0)) (by (with_reducible repeat (first | refine blk_drewN ?_ _ | refine blk_drew ?_ | refine blk_alloc ?_ _)); exact BK361.out)) : gb361 ≠ gb363)); have n7_ := Aside0.mk ((by rw [hg]; exact Nat.ne_of_gt (blk_lt (g := gb361) (o := .cells #[.int .i64 a0_0, .slice A0_1 l0_1.length c0_1, .slice A0_2 l0_2.length c0_2, .bool a0_3] 24 (0, 0)) (by (with_reducible repeat (first | refine blk_drewN ?_ _ | refine blk_drew ?_ | refine blk_alloc ?_ _)); exact BK361.out)) : gb363 ≠ gb361)); have n8_ := Aside0.mk ((by rw [hg]; exact Nat.ne_of_lt (blk_lt (g := gb362) (o := .cells #[.int .i64 a1_0, .int .i64 a1_1] 29 (0, 0)) (by (with_reducible repeat (first | refine blk_drewN ?_ _ | refine blk_drew ?_ | refine blk_alloc ?_ _)); exact BK362.out)) : gb362 ≠ gb363)); have n9_ := Aside0.mk ((by rw [hg]; exact Nat.ne_of_gt (blk_lt (g := gb362) (o := .cells #[.int .i64 a1_0, .int .i64 a1_1] 29 (0, 0)) (by (with_reducible repeat (first | refine blk_drewN ?_ _ | refine blk_drew ?_ | refine blk_alloc ?_ _)); exact BK362.out)) : gb363 ≠ gb362)); clear BK361; clear BK362; clear HB; have BK361 := n0_; have BK362 := n1_; have HB := n2_; have BK363 := n3_; have GW363 := n4_; have GE363 := n5_; have NB361_363 := n6_; have NB363_361 := n7_; have NB362_363 := n8_; have NB363_362 := n9_; clear n0_ n1_ n2_ n3_ n4_ n5_ n6_ n7_ n8_ n9_; clear hb hbox hg; have hnb10 := NB361_362.out; have hnc10 := NB362_361.out; have hnb11 := NB361_363.out; have hnc11 := NB363_361.out; have hcz12_0 : w9.cell? ⟨gb361, 0, none⟩ = some (.int .i64 a0_0) := (blk_cell BK361.out 0).trans rfl; have hcz12_1 : w9.cell? ⟨gb361, 1, none⟩ = some (.slice A0_1 l0_1.length c0_1) := (blk_cell BK361.out 1).trans rfl; have hcz12_2 : w9.cell? ⟨gb361, 2, none⟩ = some (.slice A0_2 l0_2.length c0_2) := (blk_cell BK361.out 2).trans rfl; have hcz12_3 : w9.cell? ⟨gb361, 3, none⟩ = some (.bool a0_3) := (blk_cell BK361.out 3).trans rfl; have hfz12_0 := blk_frozen BK361.out 0; have hfz12_1 := blk_frozen BK361.out 1; have hfz12_2 := blk_frozen BK361.out 2; have hfz12_3 := blk_frozen BK361.out 3; have hnb13 := NB362_363.out; have hnc13 := NB363_362.out; have hcz14_0 : w9.cell? ⟨gb362, 0, none⟩ = some (.int .i64 a1_0) := (blk_cell BK362.out 0).trans rfl; have hcz14_1 : w9.cell? ⟨gb362, 1, none⟩ = some (.int .i64 a1_1) := (blk_cell BK362.out 1).trans rfl; have hfz14_0 := blk_frozen BK362.out 0; have hfz14_1 := blk_frozen BK362.out 1) | ((with_reducible refine gate_callee (f := 58) rfl ?_); refine goesL_ (some 13) rfl rfl Tryd.func58 (by kernel_rfl) rfl #[.agg #[.int .i64 a0_0, .slice A0_1 l0_1.length c0_1, .slice A0_2 l0_2.length c0_2, .bool a0_3], .agg #[.int .i64 a1_0, .int .i64 a1_1]] rfl (by (try simp only [List.map_toArray, List.map_cons, List.map_nil]); first | done | rfl | (simp only [List.length_drop, List.length_take]; rfl)) ?_; (with_reducible refine (winnowref19_refusal.calls a0_0 _ _ l0_1 _ _ l0_2 a0_3 a1_0 a1_1 t364 _ ?side1 ?side2 ?side3 ?side4 A3.out).mono ?_); (case side1 => repeat (first | exact (Kd.C_below HR0_1.out HB.out) | (with_reducible refine Kd.C_alloc ?_ _) | (with_reducible refine Kd.C_drewN ?_ _) | (with_reducible refine Kd.C_drew ?_))); (case side2 => exact HC0_1.out); (case side3 => repeat (first | exact (Kd.C_below HR0_2.out HB.out) | (with_reducible refine Kd.C_alloc ?_ _) | (with_reducible refine Kd.C_drewN ?_ _) | (with_reducible refine Kd.C_drew ?_))); (case side4 => exact HC0_2.out); rintro e w15 ⟨rfl, hb⟩; refine ⟨_, rfl, ?_⟩; have n0_ := Aside0.mk (blk_below (g := gb361) (o := .cells #[.int .i64 a0_0, .slice A0_1 l0_1.length c0_1, .slice A0_2 l0_2.length c0_2, .bool a0_3] 24 (0, 0)) (by (with_reducible repeat (first | refine blk_drewN ?_ _ | refine blk_drew ?_ | refine blk_alloc ?_ _)); exact BK361.out) hb); have n1_ := Aside0.mk (blk_below (g := gb362) (o := .cells #[.int .i64 a1_0, .int .i64 a1_1] 29 (0, 0)) (by (with_reducible repeat (first | refine blk_drewN ?_ _ | refine blk_drew ?_ | refine blk_alloc ?_ _)); exact BK362.out) hb); have n2_ := Aside0.mk (blk_below (g := gb363) (o := .cells #[.int .i64 0, .slice none 0 0, .slice none 0 0, .bool false] 24 (0, 0)) (by (with_reducible repeat (first | refine blk_drewN ?_ _ | refine blk_drew ?_ | refine blk_alloc ?_ _)); exact BK363.out) hb); have n3_ := Aside0.mk (below_step (by repeat (first | (with_reducible first | exact HB.out | apply below_alloc | apply pw_below_drewN | apply below_drew1 | refine below_set ?_ GE361.out | refine below_set ?_ GE362.out | refine below_set ?_ GE363.out) | exact HB.out)) hb); clear BK361; clear BK362; clear BK363; clear HB; have BK361 := n0_; have BK362 := n1_; have BK363 := n2_; have HB := n3_; clear n0_ n1_ n2_ n3_; (try clear hb); (try clear hb2); (try clear hk); (try clear hi); have hcz16_0 : w15.cell? ⟨gb361, 0, none⟩ = some (.int .i64 a0_0) := (blk_cell BK361.out 0).trans rfl; have hcz16_1 : w15.cell? ⟨gb361, 1, none⟩ = some (.slice A0_1 l0_1.length c0_1) := (blk_cell BK361.out 1).trans rfl; have hcz16_2 : w15.cell? ⟨gb361, 2, none⟩ = some (.slice A0_2 l0_2.length c0_2) := (blk_cell BK361.out 2).trans rfl; have hcz16_3 : w15.cell? ⟨gb361, 3, none⟩ = some (.bool a0_3) := (blk_cell BK361.out 3).trans rfl; have hfz16_0 := blk_frozen BK361.out 0; have hfz16_1 := blk_frozen BK361.out 1; have hfz16_2 := blk_frozen BK361.out 2; have hfz16_3 := blk_frozen BK361.out 3; have hcz17_0 : w15.cell? ⟨gb362, 0, none⟩ = some (.int .i64 a1_0) := (blk_cell BK362.out 0).trans rfl; have hcz17_1 : w15.cell? ⟨gb362, 1, none⟩ = some (.int .i64 a1_1) := (blk_cell BK362.out 1).trans rfl; have hfz17_0 := blk_frozen BK362.out 0; have hfz17_1 := blk_frozen BK362.out 1) | ((with_reducible refine gate_callee (f := 48) rfl ?_); refine goesL_ (some 20) rfl rfl Tryd.func48 (by kernel_rfl) rfl #[.agg #[.int .i64 a0_0, .slice A0_1 l0_1.length c0_1, .slice A0_2 l0_2.length c0_2, .bool a0_3], .agg #[.int .i64 a1_0, .int .i64 a1_1]] rfl (by (try simp only [List.map_toArray, List.map_cons, List.map_nil]); first | done | rfl | (simp only [List.length_drop, List.length_take]; rfl)) ?_; (with_reducible refine (winnowref19_at.calls a0_0 _ _ l0_1 _ _ l0_2 a0_3 a1_0 a1_1 t365 t366 t367 _ ?side1 ?side2 ?side3 ?side4 A5.out).mono ?_); (case side1 => repeat (first | exact (Kd.C_below HR0_1.out HB.out) | (with_reducible refine Kd.C_alloc ?_ _) | (with_reducible refine Kd.C_drewN ?_ _) | (with_reducible refine Kd.C_drew ?_))); (case side2 => exact HC0_1.out); (case side3 => repeat (first | exact (Kd.C_below HR0_2.out HB.out) | (with_reducible refine Kd.C_alloc ?_ _) | (with_reducible refine Kd.C_drewN ?_ _) | (with_reducible refine Kd.C_drew ?_))); (case side4 => exact HC0_2.out); rintro e w18 ⟨rfl, hb⟩; refine ⟨_, rfl, ?_⟩; have n0_ := Aside0.mk (blk_below (g := gb361) (o := .cells #[.int .i64 a0_0, .slice A0_1 l0_1.length c0_1, .slice A0_2 l0_2.length c0_2, .bool a0_3] 24 (0, 0)) (by (with_reducible repeat (first | refine blk_drewN ?_ _ | refine blk_drew ?_ | refine blk_alloc ?_ _)); exact BK361.out) hb); have n1_ := Aside0.mk (blk_below (g := gb362) (o := .cells #[.int .i64 a1_0, .int .i64 a1_1] 29 (0, 0)) (by (with_reducible repeat (first | refine blk_drewN ?_ _ | refine blk_drew ?_ | refine blk_alloc ?_ _)); exact BK362.out) hb); have n2_ := Aside0.mk (blk_below (g := gb363) (o := .cells #[.int .i64 0, .slice none 0 0, .slice none 0 0, .bool false] 24 (0, 0)) (by (with_reducible repeat (first | refine blk_drewN ?_ _ | refine blk_drew ?_ | refine blk_alloc ?_ _)); exact BK363.out) hb); have n3_ := Aside0.mk (below_step (by repeat (first | (with_reducible first | exact HB.out | apply below_alloc | apply pw_below_drewN | apply below_drew1 | refine below_set ?_ GE361.out | refine below_set ?_ GE362.out | refine below_set ?_ GE363.out) | exact HB.out)) hb); clear BK361; clear BK362; clear BK363; clear HB; have BK361 := n0_; have BK362 := n1_; have BK363 := n2_; have HB := n3_; clear n0_ n1_ n2_ n3_; (try clear hb); (try clear hb2); (try clear hk); (try clear hi)) | ((with_reducible refine gate_dst (N := 9) rfl ?_); refine box_event ?hg (N := 9) ?hd (cs := #[.int .i64 0, .int .i64 0, .int .i64 0]) (t := 38) ?hr ?_; (case hd => rfl); (case hg => rfl); (case hr => first | (go_simp; done) | (go_simp; rfl)); intro gb368 hg w19 hbox hb; have n0_ := Aside0.mk (blk_below (g := gb361) (o := .cells #[.int .i64 a0_0, .slice A0_1 l0_1.length c0_1, .slice A0_2 l0_2.length c0_2, .bool a0_3] 24 (0, 0)) (by (with_reducible repeat (first | refine blk_drewN ?_ _ | refine blk_drew ?_ | refine blk_alloc ?_ _)); exact BK361.out) hb); have n1_ := Aside0.mk (blk_below (g := gb362) (o := .cells #[.int .i64 a1_0, .int .i64 a1_1] 29 (0, 0)) (by (with_reducible repeat (first | refine blk_drewN ?_ _ | refine blk_drew ?_ | refine blk_alloc ?_ _)); exact BK362.out) hb); have n2_ := Aside0.mk (blk_below (g := gb363) (o := .cells #[.int .i64 0, .slice none 0 0, .slice none 0 0, .bool false] 24 (0, 0)) (by (with_reducible repeat (first | refine blk_drewN ?_ _ | refine blk_drew ?_ | refine blk_alloc ?_ _)); exact BK363.out) hb); have n3_ := Aside0.mk (below_step (by repeat (first | (with_reducible first | exact HB.out | apply below_alloc | apply pw_below_drewN | apply below_drew1 | refine below_set ?_ GE361.out | refine below_set ?_ GE362.out | refine below_set ?_ GE363.out) | exact HB.out)) hb); have n4_ := Aside0.mk (hbox); have n5_ := Aside0.mk ((by rw [hg]; exact (below_size (by repeat (first | (with_reducible first | exact HB.out | apply below_alloc | apply pw_below_drewN | apply below_drew1 | refine below_set ?_ GE361.out | refine below_set ?_ GE362.out | refine below_set ?_ GE363.out) | exact HB.out))) : w.heap.size ≤ gb368)); have n6_ := Aside0.mk ((by rw [hg]; exact (below_size (by repeat (first | (with_reducible first | exact HB.out | apply below_alloc | apply pw_below_drewN | apply below_drew1 | refine below_set ?_ GE361.out | refine below_set ?_ GE362.out | refine below_set ?_ GE363.out) | exact HB.out))) : w.heap.size ≤ gb368)); have n7_ := Aside0.mk ((by rw [hg]; exact Nat.ne_of_lt (blk_lt (g := gb361) (o := .cells #[.int .i64 a0_0, .slice A0_1 l0_1.length c0_1, .slice A0_2 l0_2.length c0_2, .bool a0_3] 24 (0, 0)) (by (with_reducible repeat (first | refine blk_drewN ?_ _ | refine blk_drew ?_ | refine blk_alloc ?_ _)); exact BK361.out)) : gb361 ≠ gb368)); have n8_ := Aside0.mk ((by rw [hg]; exact Nat.ne_of_gt (blk_lt (g := gb361) (o := .cells #[.int .i64 a0_0, .slice A0_1 l0_1.length c0_1, .slice A0_2 l0_2.length c0_2, .bool a0_3] 24 (0, 0)) (by (with_reducible repeat (first | refine blk_drewN ?_ _ | refine blk_drew ?_ | refine blk_alloc ?_ _)); exact BK361.out)) : gb368 ≠ gb361)); have n9_ := Aside0.mk ((by rw [hg]; exact Nat.ne_of_lt (blk_lt (g := gb362) (o := .cells #[.int .i64 a1_0, .int .i64 a1_1] 29 (0, 0)) (by (with_reducible repeat (first | refine blk_drewN ?_ _ | refine blk_drew ?_ | refine blk_alloc ?_ _)); exact BK362.out)) : gb362 ≠ gb368)); have n10_ := Aside0.mk ((by rw [hg]; exact Nat.ne_of_gt (blk_lt (g := gb362) (o := .cells #[.int .i64 a1_0, .int .i64 a1_1] 29 (0, 0)) (by (with_reducible repeat (first | refine blk_drewN ?_ _ | refine blk_drew ?_ | refine blk_alloc ?_ _)); exact BK362.out)) : gb368 ≠ gb362)); have n11_ := Aside0.mk ((by rw [hg]; exact Nat.ne_of_lt (blk_lt (g := gb363) (o := .cells #[.int .i64 0, .slice none 0 0, .slice none 0 0, .bool false] 24 (0, 0)) (by (with_reducible repeat (first | refine blk_drewN ?_ _ | refine blk_drew ?_ | refine blk_alloc ?_ _)); exact BK363.out)) : gb363 ≠ gb368)); have n12_ := Aside0.mk ((by rw [hg]; exact Nat.ne_of_gt (blk_lt (g := gb363) (o := .cells #[.int .i64 0, .slice none 0 0, .slice none 0 0, .bool false] 24 (0, 0)) (by (with_reducible repeat (first | refine blk_drewN ?_ _ | refine blk_drew ?_ | refine blk_alloc ?_ _)); exact BK363.out)) : gb368 ≠ gb363)); clear BK361; clear BK362; clear BK363; clear HB; have BK361 := n0_; have BK362 := n1_; have BK363 := n2_; have HB := n3_; have BK368 := n4_; have GW368 := n5_; have GE368 := n6_; have NB361_368 := n7_; have NB368_361 := n8_; have NB362_368 := n9_; have NB368_362 := n10_; have NB363_368 := n11_; have NB368_363 := n12_; clear n0_ n1_ n2_ n3_ n4_ n5_ n6_ n7_ n8_ n9_ n10_ n11_ n12_; clear hb hbox hg; have hnb20 := NB368_361.out; have hnc20 := NB361_368.out; have hnb21 := NB368_362.out; have hnc21 := NB362_368.out; have hnb22 := NB368_363.out; have hnc22 := NB363_368.out; have hcz23_0 : w19.cell? ⟨gb368, 0, none⟩ = some (.int .i64 0) := (blk_cell BK368.out 0).trans rfl; have hcz23_1 : w19.cell? ⟨gb368, 1, none⟩ = some (.int .i64 0) := (blk_cell BK368.out 1).trans rfl; have hcz23_2 : w19.cell? ⟨gb368, 2, none⟩ = some (.int .i64 0) := (blk_cell BK368.out 2).trans rfl; have hfz23_0 := blk_frozen BK368.out 0; have hfz23_1 := blk_frozen BK368.out 1; have hfz23_2 := blk_frozen BK368.out 2))
    (try simp only [Act.put, List.setIfInBounds_toArray, List.set_cons_zero, List.set_cons_succ])
    go_cut [43] (fun v43 wc => ∃ (kq : Nat) (x43_5 : Bool), v43 = .bool x43_5 ∧ Aside0 (winnowref19_Begin.j0 kq x43_5 a0_0 l0_1 l0_2 a0_3 a1_0 a1_1 t365 t366 t367 = some (r1, r2, r3, r4, r5, r6, r7)) ∧ Aside0 (kq ≤ k) ∧ Aside0 (wc.heap[gb361]? = some (.cells #[.int .i64 a0_0, (.slice A0_1 l0_1.length c0_1), (.slice A0_2 l0_2.length c0_2), .bool a0_3] 24 (0, 0))) ∧ Aside0 (wc.heap[gb362]? = some (.cells #[.int .i64 a1_0, .int .i64 a1_1] 29 (0, 0))) ∧ Aside0 (wc.heap[gb363]? = some (.cells #[.int .i64 0, (.slice none 0 0), (.slice none 0 0), .bool false] 24 (0, 0))) ∧ Aside0 (wc.heap[gb368]? = some (.cells #[.int .i64 t365, .int .i64 t366, .int .i64 t367] 38 (0, 0))) ∧ Aside0 (Below w.heap.size w wc))
    case first =>
      have H := HC6.out
      clear HC6
      by_cases c24 : a0_3 = true
      · subst c24
        have H1 : (winnowref19_Begin.j0 k true a0_0 l0_1 l0_2 true a1_0 a1_1 t365 t366 t367) = some (r1, r2, r3, r4, r5, r6, r7) := by rw [if_pos rfl] at H; exact H
        clear H
        have H := H1
        clear H1
        have H' := Aside0.mk H
        clear H
        have hnb25 := NB361_362.out
        have hnc25 := NB362_361.out
        have hnb26 := NB361_363.out
        have hnc26 := NB363_361.out
        have hnb27 := NB361_368.out
        have hnc27 := NB368_361.out
        have hcz28_0 : w19.cell? ⟨gb361, 0, none⟩ = some (.int .i64 a0_0) := (blk_cell BK361.out 0).trans rfl
        have hcz28_1 : w19.cell? ⟨gb361, 1, none⟩ = some (.slice A0_1 l0_1.length c0_1) := (blk_cell BK361.out 1).trans rfl
        have hcz28_2 : w19.cell? ⟨gb361, 2, none⟩ = some (.slice A0_2 l0_2.length c0_2) := (blk_cell BK361.out 2).trans rfl
        have hcz28_3 : w19.cell? ⟨gb361, 3, none⟩ = some (.bool true) := (blk_cell BK361.out 3).trans rfl
        have hfz28_0 := blk_frozen BK361.out 0
        have hfz28_1 := blk_frozen BK361.out 1
        have hfz28_2 := blk_frozen BK361.out 2
        have hfz28_3 := blk_frozen BK361.out 3
        go_wp2
        go_meet
        case rel => exact ⟨_, (true), (by first | rfl | (simp; done) | (simp [*]; done)), H', ⟨by first | omega | exact Nat.le_refl _⟩, ⟨by (with_reducible repeat (first | refine blk_drewN ?_ _ | refine blk_drew ?_ | refine blk_alloc ?_ _)); refine blk_far ?_ NB361_368.out _; (with_reducible repeat (first | refine blk_drewN ?_ _ | refine blk_drew ?_ | refine blk_alloc ?_ _)); refine blk_far ?_ NB361_368.out _; (with_reducible repeat (first | refine blk_drewN ?_ _ | refine blk_drew ?_ | refine blk_alloc ?_ _)); refine blk_far ?_ NB361_368.out _; (with_reducible repeat (first | refine blk_drewN ?_ _ | refine blk_drew ?_ | refine blk_alloc ?_ _)); exact BK361.out⟩, ⟨by (with_reducible repeat (first | refine blk_drewN ?_ _ | refine blk_drew ?_ | refine blk_alloc ?_ _)); refine blk_far ?_ NB362_368.out _; (with_reducible repeat (first | refine blk_drewN ?_ _ | refine blk_drew ?_ | refine blk_alloc ?_ _)); refine blk_far ?_ NB362_368.out _; (with_reducible repeat (first | refine blk_drewN ?_ _ | refine blk_drew ?_ | refine blk_alloc ?_ _)); refine blk_far ?_ NB362_368.out _; (with_reducible repeat (first | refine blk_drewN ?_ _ | refine blk_drew ?_ | refine blk_alloc ?_ _)); exact BK362.out⟩, ⟨by (with_reducible repeat (first | refine blk_drewN ?_ _ | refine blk_drew ?_ | refine blk_alloc ?_ _)); refine blk_far ?_ NB363_368.out _; (with_reducible repeat (first | refine blk_drewN ?_ _ | refine blk_drew ?_ | refine blk_alloc ?_ _)); refine blk_far ?_ NB363_368.out _; (with_reducible repeat (first | refine blk_drewN ?_ _ | refine blk_drew ?_ | refine blk_alloc ?_ _)); refine blk_far ?_ NB363_368.out _; (with_reducible repeat (first | refine blk_drewN ?_ _ | refine blk_drew ?_ | refine blk_alloc ?_ _)); exact BK363.out⟩, ⟨by (with_reducible repeat (first | refine blk_drewN ?_ _ | refine blk_drew ?_ | refine blk_alloc ?_ _)); refine blk_put (cs := #[.int .i64 t365, .int .i64 t366, .int .i64 0]) ?_ 2 _ rfl; (with_reducible repeat (first | refine blk_drewN ?_ _ | refine blk_drew ?_ | refine blk_alloc ?_ _)); refine blk_put (cs := #[.int .i64 t365, .int .i64 0, .int .i64 0]) ?_ 1 _ rfl; (with_reducible repeat (first | refine blk_drewN ?_ _ | refine blk_drew ?_ | refine blk_alloc ?_ _)); refine blk_put (cs := #[.int .i64 0, .int .i64 0, .int .i64 0]) ?_ 0 _ rfl; (with_reducible repeat (first | refine blk_drewN ?_ _ | refine blk_drew ?_ | refine blk_alloc ?_ _)); exact BK368.out⟩, ⟨by repeat (first | (with_reducible first | exact HB.out | apply below_alloc | apply pw_below_drewN | apply below_drew1 | refine below_set ?_ GE361.out | refine below_set ?_ GE362.out | refine below_set ?_ GE363.out | refine below_set ?_ GE368.out) | exact HB.out)⟩⟩
      · replace c24 := Bool.eq_false_iff.mpr c24
        subst c24
        have H1 : (if t365 = 0 then (if a1_0 = 1 then ((winnowref19_all.f k l0_1).bind fun t369 => (winnowref19_Begin.j0 k (!t369) a0_0 l0_1 l0_2 false a1_0 a1_1 t365 t366 t367)) else (winnowref19_Begin.j0 k false a0_0 l0_1 l0_2 false a1_0 a1_1 t365 t366 t367)) else (if t365 = 2 then (if a1_0 = 1 then ((winnowref19_all.f k l0_1).bind fun t370 => (winnowref19_Begin.j0 k (!t370) a0_0 l0_1 l0_2 false a1_0 a1_1 t365 t366 t367)) else (winnowref19_Begin.j0 k false a0_0 l0_1 l0_2 false a1_0 a1_1 t365 t366 t367)) else (winnowref19_Begin.j0 k true a0_0 l0_1 l0_2 false a1_0 a1_1 t365 t366 t367))) = some (r1, r2, r3, r4, r5, r6, r7) := by rw [if_neg (show ¬ (false = true) by decide)] at H; exact H
        clear H
        have H := H1
        clear H1
        by_cases c29 : t365 = 0
        · rw [if_pos c29] at H
          have c29b0 : (t365 == 0) = true := beq_iff_eq.mpr c29
          have c29b1 : (t365 != 0) = false := bne_eq_false_iff_eq.mpr c29
          clear c29
          (first | rw [c29b0] | (simp only [i64_w, i32_w]; rw [c29b0]) | skip)
          by_cases c30 : a1_0 = 1
          · rw [if_pos c30] at H
            have c30b0 : (a1_0 == 1) = true := beq_iff_eq.mpr c30
            have c30b1 : (a1_0 != 1) = false := bne_eq_false_iff_eq.mpr c30
            clear c30
            replace H := Option.bind_eq_some_iff.mp H
            obtain ⟨t369, A310, H⟩ := H
            replace H : (winnowref19_Begin.j0 k (!t369) a0_0 l0_1 l0_2 false a1_0 a1_1 t365 t366 t367) = some (r1, r2, r3, r4, r5, r6, r7) := H
            have A31 := Aside0.mk A310
            clear A310
            have H' := Aside0.mk H
            clear H
            have hnb32 := NB361_362.out
            have hnc32 := NB362_361.out
            have hnb33 := NB361_363.out
            have hnc33 := NB363_361.out
            have hnb34 := NB361_368.out
            have hnc34 := NB368_361.out
            have hcz35_0 : w19.cell? ⟨gb361, 0, none⟩ = some (.int .i64 a0_0) := (blk_cell BK361.out 0).trans rfl
            have hcz35_1 : w19.cell? ⟨gb361, 1, none⟩ = some (.slice A0_1 l0_1.length c0_1) := (blk_cell BK361.out 1).trans rfl
            have hcz35_2 : w19.cell? ⟨gb361, 2, none⟩ = some (.slice A0_2 l0_2.length c0_2) := (blk_cell BK361.out 2).trans rfl
            have hcz35_3 : w19.cell? ⟨gb361, 3, none⟩ = some (.bool false) := (blk_cell BK361.out 3).trans rfl
            have hfz35_0 := blk_frozen BK361.out 0
            have hfz35_1 := blk_frozen BK361.out 1
            have hfz35_2 := blk_frozen BK361.out 2
            have hfz35_3 := blk_frozen BK361.out 3
            have hnb36 := NB368_362.out
            have hnc36 := NB362_368.out
            have hnb37 := NB368_363.out
            have hnc37 := NB363_368.out
            have hcz38_0 : w19.cell? ⟨gb368, 0, none⟩ = some (.int .i64 0) := (blk_cell BK368.out 0).trans rfl
            have hcz38_1 : w19.cell? ⟨gb368, 1, none⟩ = some (.int .i64 0) := (blk_cell BK368.out 1).trans rfl
            have hcz38_2 : w19.cell? ⟨gb368, 2, none⟩ = some (.int .i64 0) := (blk_cell BK368.out 2).trans rfl
            have hfz38_0 := blk_frozen BK368.out 0
            have hfz38_1 := blk_frozen BK368.out 1
            have hfz38_2 := blk_frozen BK368.out 2
            have hnb39 := NB362_363.out
            have hnc39 := NB363_362.out
            have hcz40_0 : w19.cell? ⟨gb362, 0, none⟩ = some (.int .i64 a1_0) := (blk_cell BK362.out 0).trans rfl
            have hcz40_1 : w19.cell? ⟨gb362, 1, none⟩ = some (.int .i64 a1_1) := (blk_cell BK362.out 1).trans rfl
            have hfz40_0 := blk_frozen BK362.out 0
            have hfz40_1 := blk_frozen BK362.out 1
            go_wp2_with (first | (go_at_call 41; (with_reducible refine (winnowref19_all.calls k _ _ l0_1 t369 _ ?side1 ?side2 A31.out).mono ?_); (case side1 => exact Kd.C_below HR0_1.out (by repeat (first | (with_reducible first | exact HB.out | apply below_alloc | apply pw_below_drewN | apply below_drew1 | refine below_set ?_ GE361.out | refine below_set ?_ GE362.out | refine below_set ?_ GE363.out | refine below_set ?_ GE368.out) | exact HB.out))); (case side2 => exact HC0_1.out); rintro e w' ⟨rfl, ⟨nd, rfl⟩⟩))
            go_meet
            case rel => exact ⟨_, (!t369), (by first | rfl | (simp; done) | (simp [*]; done)), H', ⟨by first | omega | exact Nat.le_refl _⟩, ⟨by (with_reducible repeat (first | refine blk_drewN ?_ _ | refine blk_drew ?_ | refine blk_alloc ?_ _)); refine blk_far ?_ NB361_368.out _; (with_reducible repeat (first | refine blk_drewN ?_ _ | refine blk_drew ?_ | refine blk_alloc ?_ _)); refine blk_far ?_ NB361_368.out _; (with_reducible repeat (first | refine blk_drewN ?_ _ | refine blk_drew ?_ | refine blk_alloc ?_ _)); refine blk_far ?_ NB361_368.out _; (with_reducible repeat (first | refine blk_drewN ?_ _ | refine blk_drew ?_ | refine blk_alloc ?_ _)); exact BK361.out⟩, ⟨by (with_reducible repeat (first | refine blk_drewN ?_ _ | refine blk_drew ?_ | refine blk_alloc ?_ _)); refine blk_far ?_ NB362_368.out _; (with_reducible repeat (first | refine blk_drewN ?_ _ | refine blk_drew ?_ | refine blk_alloc ?_ _)); refine blk_far ?_ NB362_368.out _; (with_reducible repeat (first | refine blk_drewN ?_ _ | refine blk_drew ?_ | refine blk_alloc ?_ _)); refine blk_far ?_ NB362_368.out _; (with_reducible repeat (first | refine blk_drewN ?_ _ | refine blk_drew ?_ | refine blk_alloc ?_ _)); exact BK362.out⟩, ⟨by (with_reducible repeat (first | refine blk_drewN ?_ _ | refine blk_drew ?_ | refine blk_alloc ?_ _)); refine blk_far ?_ NB363_368.out _; (with_reducible repeat (first | refine blk_drewN ?_ _ | refine blk_drew ?_ | refine blk_alloc ?_ _)); refine blk_far ?_ NB363_368.out _; (with_reducible repeat (first | refine blk_drewN ?_ _ | refine blk_drew ?_ | refine blk_alloc ?_ _)); refine blk_far ?_ NB363_368.out _; (with_reducible repeat (first | refine blk_drewN ?_ _ | refine blk_drew ?_ | refine blk_alloc ?_ _)); exact BK363.out⟩, ⟨by (with_reducible repeat (first | refine blk_drewN ?_ _ | refine blk_drew ?_ | refine blk_alloc ?_ _)); refine blk_put (cs := #[.int .i64 t365, .int .i64 t366, .int .i64 0]) ?_ 2 _ rfl; (with_reducible repeat (first | refine blk_drewN ?_ _ | refine blk_drew ?_ | refine blk_alloc ?_ _)); refine blk_put (cs := #[.int .i64 t365, .int .i64 0, .int .i64 0]) ?_ 1 _ rfl; (with_reducible repeat (first | refine blk_drewN ?_ _ | refine blk_drew ?_ | refine blk_alloc ?_ _)); refine blk_put (cs := #[.int .i64 0, .int .i64 0, .int .i64 0]) ?_ 0 _ rfl; (with_reducible repeat (first | refine blk_drewN ?_ _ | refine blk_drew ?_ | refine blk_alloc ?_ _)); exact BK368.out⟩, ⟨by repeat (first | (with_reducible first | exact HB.out | apply below_alloc | apply pw_below_drewN | apply below_drew1 | refine below_set ?_ GE361.out | refine below_set ?_ GE362.out | refine below_set ?_ GE363.out | refine below_set ?_ GE368.out) | exact HB.out)⟩⟩
          · rw [if_neg c30] at H
            have c30b0 : (a1_0 == 1) = false := beq_eq_false_iff_ne.mpr c30
            have c30b1 : (a1_0 != 1) = true := bne_iff_ne.mpr c30
            have H' := Aside0.mk H
            clear H
            have hnb41 := NB361_362.out
            have hnc41 := NB362_361.out
            have hnb42 := NB361_363.out
            have hnc42 := NB363_361.out
            have hnb43 := NB361_368.out
            have hnc43 := NB368_361.out
            have hcz44_0 : w19.cell? ⟨gb361, 0, none⟩ = some (.int .i64 a0_0) := (blk_cell BK361.out 0).trans rfl
            have hcz44_1 : w19.cell? ⟨gb361, 1, none⟩ = some (.slice A0_1 l0_1.length c0_1) := (blk_cell BK361.out 1).trans rfl
            have hcz44_2 : w19.cell? ⟨gb361, 2, none⟩ = some (.slice A0_2 l0_2.length c0_2) := (blk_cell BK361.out 2).trans rfl
            have hcz44_3 : w19.cell? ⟨gb361, 3, none⟩ = some (.bool false) := (blk_cell BK361.out 3).trans rfl
            have hfz44_0 := blk_frozen BK361.out 0
            have hfz44_1 := blk_frozen BK361.out 1
            have hfz44_2 := blk_frozen BK361.out 2
            have hfz44_3 := blk_frozen BK361.out 3
            have hnb45 := NB368_362.out
            have hnc45 := NB362_368.out
            have hnb46 := NB368_363.out
            have hnc46 := NB363_368.out
            have hcz47_0 : w19.cell? ⟨gb368, 0, none⟩ = some (.int .i64 0) := (blk_cell BK368.out 0).trans rfl
            have hcz47_1 : w19.cell? ⟨gb368, 1, none⟩ = some (.int .i64 0) := (blk_cell BK368.out 1).trans rfl
            have hcz47_2 : w19.cell? ⟨gb368, 2, none⟩ = some (.int .i64 0) := (blk_cell BK368.out 2).trans rfl
            have hfz47_0 := blk_frozen BK368.out 0
            have hfz47_1 := blk_frozen BK368.out 1
            have hfz47_2 := blk_frozen BK368.out 2
            have hnb48 := NB362_363.out
            have hnc48 := NB363_362.out
            have hcz49_0 : w19.cell? ⟨gb362, 0, none⟩ = some (.int .i64 a1_0) := (blk_cell BK362.out 0).trans rfl
            have hcz49_1 : w19.cell? ⟨gb362, 1, none⟩ = some (.int .i64 a1_1) := (blk_cell BK362.out 1).trans rfl
            have hfz49_0 := blk_frozen BK362.out 0
            have hfz49_1 := blk_frozen BK362.out 1
            go_wp2
            go_meet
            case rel => exact ⟨_, (false), (by first | rfl | (simp; done) | (simp [*]; done)), H', ⟨by first | omega | exact Nat.le_refl _⟩, ⟨by (with_reducible repeat (first | refine blk_drewN ?_ _ | refine blk_drew ?_ | refine blk_alloc ?_ _)); refine blk_far ?_ NB361_368.out _; (with_reducible repeat (first | refine blk_drewN ?_ _ | refine blk_drew ?_ | refine blk_alloc ?_ _)); refine blk_far ?_ NB361_368.out _; (with_reducible repeat (first | refine blk_drewN ?_ _ | refine blk_drew ?_ | refine blk_alloc ?_ _)); refine blk_far ?_ NB361_368.out _; (with_reducible repeat (first | refine blk_drewN ?_ _ | refine blk_drew ?_ | refine blk_alloc ?_ _)); exact BK361.out⟩, ⟨by (with_reducible repeat (first | refine blk_drewN ?_ _ | refine blk_drew ?_ | refine blk_alloc ?_ _)); refine blk_far ?_ NB362_368.out _; (with_reducible repeat (first | refine blk_drewN ?_ _ | refine blk_drew ?_ | refine blk_alloc ?_ _)); refine blk_far ?_ NB362_368.out _; (with_reducible repeat (first | refine blk_drewN ?_ _ | refine blk_drew ?_ | refine blk_alloc ?_ _)); refine blk_far ?_ NB362_368.out _; (with_reducible repeat (first | refine blk_drewN ?_ _ | refine blk_drew ?_ | refine blk_alloc ?_ _)); exact BK362.out⟩, ⟨by (with_reducible repeat (first | refine blk_drewN ?_ _ | refine blk_drew ?_ | refine blk_alloc ?_ _)); refine blk_far ?_ NB363_368.out _; (with_reducible repeat (first | refine blk_drewN ?_ _ | refine blk_drew ?_ | refine blk_alloc ?_ _)); refine blk_far ?_ NB363_368.out _; (with_reducible repeat (first | refine blk_drewN ?_ _ | refine blk_drew ?_ | refine blk_alloc ?_ _)); refine blk_far ?_ NB363_368.out _; (with_reducible repeat (first | refine blk_drewN ?_ _ | refine blk_drew ?_ | refine blk_alloc ?_ _)); exact BK363.out⟩, ⟨by (with_reducible repeat (first | refine blk_drewN ?_ _ | refine blk_drew ?_ | refine blk_alloc ?_ _)); refine blk_put (cs := #[.int .i64 t365, .int .i64 t366, .int .i64 0]) ?_ 2 _ rfl; (with_reducible repeat (first | refine blk_drewN ?_ _ | refine blk_drew ?_ | refine blk_alloc ?_ _)); refine blk_put (cs := #[.int .i64 t365, .int .i64 0, .int .i64 0]) ?_ 1 _ rfl; (with_reducible repeat (first | refine blk_drewN ?_ _ | refine blk_drew ?_ | refine blk_alloc ?_ _)); refine blk_put (cs := #[.int .i64 0, .int .i64 0, .int .i64 0]) ?_ 0 _ rfl; (with_reducible repeat (first | refine blk_drewN ?_ _ | refine blk_drew ?_ | refine blk_alloc ?_ _)); exact BK368.out⟩, ⟨by repeat (first | (with_reducible first | exact HB.out | apply below_alloc | apply pw_below_drewN | apply below_drew1 | refine below_set ?_ GE361.out | refine below_set ?_ GE362.out | refine below_set ?_ GE363.out | refine below_set ?_ GE368.out) | exact HB.out)⟩⟩
        · rw [if_neg c29] at H
          have c29b0 : (t365 == 0) = false := beq_eq_false_iff_ne.mpr c29
          have c29b1 : (t365 != 0) = true := bne_iff_ne.mpr c29
          (first | rw [c29b0] | (simp only [i64_w, i32_w]; rw [c29b0]) | skip)
          by_cases c50 : t365 = 2
          · rw [if_pos c50] at H
            have c50b0 : (t365 == 2) = true := beq_iff_eq.mpr c50
            have c50b1 : (t365 != 2) = false := bne_eq_false_iff_eq.mpr c50
            clear c50
            by_cases c51 : a1_0 = 1
            · rw [if_pos c51] at H
              have c51b0 : (a1_0 == 1) = true := beq_iff_eq.mpr c51
              have c51b1 : (a1_0 != 1) = false := bne_eq_false_iff_eq.mpr c51
              clear c51
              replace H := Option.bind_eq_some_iff.mp H
              obtain ⟨t370, A520, H⟩ := H
              replace H : (winnowref19_Begin.j0 k (!t370) a0_0 l0_1 l0_2 false a1_0 a1_1 t365 t366 t367) = some (r1, r2, r3, r4, r5, r6, r7) := H
              have A52 := Aside0.mk A520
              clear A520
              have H' := Aside0.mk H
              clear H
              have hnb53 := NB361_362.out
              have hnc53 := NB362_361.out
              have hnb54 := NB361_363.out
              have hnc54 := NB363_361.out
              have hnb55 := NB361_368.out
              have hnc55 := NB368_361.out
              have hcz56_0 : w19.cell? ⟨gb361, 0, none⟩ = some (.int .i64 a0_0) := (blk_cell BK361.out 0).trans rfl
              have hcz56_1 : w19.cell? ⟨gb361, 1, none⟩ = some (.slice A0_1 l0_1.length c0_1) := (blk_cell BK361.out 1).trans rfl
              have hcz56_2 : w19.cell? ⟨gb361, 2, none⟩ = some (.slice A0_2 l0_2.length c0_2) := (blk_cell BK361.out 2).trans rfl
              have hcz56_3 : w19.cell? ⟨gb361, 3, none⟩ = some (.bool false) := (blk_cell BK361.out 3).trans rfl
              have hfz56_0 := blk_frozen BK361.out 0
              have hfz56_1 := blk_frozen BK361.out 1
              have hfz56_2 := blk_frozen BK361.out 2
              have hfz56_3 := blk_frozen BK361.out 3
              have hnb57 := NB368_362.out
              have hnc57 := NB362_368.out
              have hnb58 := NB368_363.out
              have hnc58 := NB363_368.out
              have hcz59_0 : w19.cell? ⟨gb368, 0, none⟩ = some (.int .i64 0) := (blk_cell BK368.out 0).trans rfl
              have hcz59_1 : w19.cell? ⟨gb368, 1, none⟩ = some (.int .i64 0) := (blk_cell BK368.out 1).trans rfl
              have hcz59_2 : w19.cell? ⟨gb368, 2, none⟩ = some (.int .i64 0) := (blk_cell BK368.out 2).trans rfl
              have hfz59_0 := blk_frozen BK368.out 0
              have hfz59_1 := blk_frozen BK368.out 1
              have hfz59_2 := blk_frozen BK368.out 2
              have hnb60 := NB362_363.out
              have hnc60 := NB363_362.out
              have hcz61_0 : w19.cell? ⟨gb362, 0, none⟩ = some (.int .i64 a1_0) := (blk_cell BK362.out 0).trans rfl
              have hcz61_1 : w19.cell? ⟨gb362, 1, none⟩ = some (.int .i64 a1_1) := (blk_cell BK362.out 1).trans rfl
              have hfz61_0 := blk_frozen BK362.out 0
              have hfz61_1 := blk_frozen BK362.out 1
              go_wp2_with (first | (go_at_call 41; (with_reducible refine (winnowref19_all.calls k _ _ l0_1 t370 _ ?side1 ?side2 A52.out).mono ?_); (case side1 => exact Kd.C_below HR0_1.out (by repeat (first | (with_reducible first | exact HB.out | apply below_alloc | apply pw_below_drewN | apply below_drew1 | refine below_set ?_ GE361.out | refine below_set ?_ GE362.out | refine below_set ?_ GE363.out | refine below_set ?_ GE368.out) | exact HB.out))); (case side2 => exact HC0_1.out); rintro e w' ⟨rfl, ⟨nd, rfl⟩⟩))
              go_meet
              case rel => exact ⟨_, (!t370), (by first | rfl | (simp; done) | (simp [*]; done)), H', ⟨by first | omega | exact Nat.le_refl _⟩, ⟨by (with_reducible repeat (first | refine blk_drewN ?_ _ | refine blk_drew ?_ | refine blk_alloc ?_ _)); refine blk_far ?_ NB361_368.out _; (with_reducible repeat (first | refine blk_drewN ?_ _ | refine blk_drew ?_ | refine blk_alloc ?_ _)); refine blk_far ?_ NB361_368.out _; (with_reducible repeat (first | refine blk_drewN ?_ _ | refine blk_drew ?_ | refine blk_alloc ?_ _)); refine blk_far ?_ NB361_368.out _; (with_reducible repeat (first | refine blk_drewN ?_ _ | refine blk_drew ?_ | refine blk_alloc ?_ _)); exact BK361.out⟩, ⟨by (with_reducible repeat (first | refine blk_drewN ?_ _ | refine blk_drew ?_ | refine blk_alloc ?_ _)); refine blk_far ?_ NB362_368.out _; (with_reducible repeat (first | refine blk_drewN ?_ _ | refine blk_drew ?_ | refine blk_alloc ?_ _)); refine blk_far ?_ NB362_368.out _; (with_reducible repeat (first | refine blk_drewN ?_ _ | refine blk_drew ?_ | refine blk_alloc ?_ _)); refine blk_far ?_ NB362_368.out _; (with_reducible repeat (first | refine blk_drewN ?_ _ | refine blk_drew ?_ | refine blk_alloc ?_ _)); exact BK362.out⟩, ⟨by (with_reducible repeat (first | refine blk_drewN ?_ _ | refine blk_drew ?_ | refine blk_alloc ?_ _)); refine blk_far ?_ NB363_368.out _; (with_reducible repeat (first | refine blk_drewN ?_ _ | refine blk_drew ?_ | refine blk_alloc ?_ _)); refine blk_far ?_ NB363_368.out _; (with_reducible repeat (first | refine blk_drewN ?_ _ | refine blk_drew ?_ | refine blk_alloc ?_ _)); refine blk_far ?_ NB363_368.out _; (with_reducible repeat (first | refine blk_drewN ?_ _ | refine blk_drew ?_ | refine blk_alloc ?_ _)); exact BK363.out⟩, ⟨by (with_reducible repeat (first | refine blk_drewN ?_ _ | refine blk_drew ?_ | refine blk_alloc ?_ _)); refine blk_put (cs := #[.int .i64 t365, .int .i64 t366, .int .i64 0]) ?_ 2 _ rfl; (with_reducible repeat (first | refine blk_drewN ?_ _ | refine blk_drew ?_ | refine blk_alloc ?_ _)); refine blk_put (cs := #[.int .i64 t365, .int .i64 0, .int .i64 0]) ?_ 1 _ rfl; (with_reducible repeat (first | refine blk_drewN ?_ _ | refine blk_drew ?_ | refine blk_alloc ?_ _)); refine blk_put (cs := #[.int .i64 0, .int .i64 0, .int .i64 0]) ?_ 0 _ rfl; (with_reducible repeat (first | refine blk_drewN ?_ _ | refine blk_drew ?_ | refine blk_alloc ?_ _)); exact BK368.out⟩, ⟨by repeat (first | (with_reducible first | exact HB.out | apply below_alloc | apply pw_below_drewN | apply below_drew1 | refine below_set ?_ GE361.out | refine below_set ?_ GE362.out | refine below_set ?_ GE363.out | refine below_set ?_ GE368.out) | exact HB.out)⟩⟩
            · rw [if_neg c51] at H
              have c51b0 : (a1_0 == 1) = false := beq_eq_false_iff_ne.mpr c51
              have c51b1 : (a1_0 != 1) = true := bne_iff_ne.mpr c51
              have H' := Aside0.mk H
              clear H
              have hnb62 := NB361_362.out
              have hnc62 := NB362_361.out
              have hnb63 := NB361_363.out
              have hnc63 := NB363_361.out
              have hnb64 := NB361_368.out
              have hnc64 := NB368_361.out
              have hcz65_0 : w19.cell? ⟨gb361, 0, none⟩ = some (.int .i64 a0_0) := (blk_cell BK361.out 0).trans rfl
              have hcz65_1 : w19.cell? ⟨gb361, 1, none⟩ = some (.slice A0_1 l0_1.length c0_1) := (blk_cell BK361.out 1).trans rfl
              have hcz65_2 : w19.cell? ⟨gb361, 2, none⟩ = some (.slice A0_2 l0_2.length c0_2) := (blk_cell BK361.out 2).trans rfl
              have hcz65_3 : w19.cell? ⟨gb361, 3, none⟩ = some (.bool false) := (blk_cell BK361.out 3).trans rfl
              have hfz65_0 := blk_frozen BK361.out 0
              have hfz65_1 := blk_frozen BK361.out 1
              have hfz65_2 := blk_frozen BK361.out 2
              have hfz65_3 := blk_frozen BK361.out 3
              have hnb66 := NB368_362.out
              have hnc66 := NB362_368.out
              have hnb67 := NB368_363.out
              have hnc67 := NB363_368.out
              have hcz68_0 : w19.cell? ⟨gb368, 0, none⟩ = some (.int .i64 0) := (blk_cell BK368.out 0).trans rfl
              have hcz68_1 : w19.cell? ⟨gb368, 1, none⟩ = some (.int .i64 0) := (blk_cell BK368.out 1).trans rfl
              have hcz68_2 : w19.cell? ⟨gb368, 2, none⟩ = some (.int .i64 0) := (blk_cell BK368.out 2).trans rfl
              have hfz68_0 := blk_frozen BK368.out 0
              have hfz68_1 := blk_frozen BK368.out 1
              have hfz68_2 := blk_frozen BK368.out 2
              have hnb69 := NB362_363.out
              have hnc69 := NB363_362.out
              have hcz70_0 : w19.cell? ⟨gb362, 0, none⟩ = some (.int .i64 a1_0) := (blk_cell BK362.out 0).trans rfl
              have hcz70_1 : w19.cell? ⟨gb362, 1, none⟩ = some (.int .i64 a1_1) := (blk_cell BK362.out 1).trans rfl
              have hfz70_0 := blk_frozen BK362.out 0
              have hfz70_1 := blk_frozen BK362.out 1
              go_wp2
              go_meet
              case rel => exact ⟨_, (false), (by first | rfl | (simp; done) | (simp [*]; done)), H', ⟨by first | omega | exact Nat.le_refl _⟩, ⟨by (with_reducible repeat (first | refine blk_drewN ?_ _ | refine blk_drew ?_ | refine blk_alloc ?_ _)); refine blk_far ?_ NB361_368.out _; (with_reducible repeat (first | refine blk_drewN ?_ _ | refine blk_drew ?_ | refine blk_alloc ?_ _)); refine blk_far ?_ NB361_368.out _; (with_reducible repeat (first | refine blk_drewN ?_ _ | refine blk_drew ?_ | refine blk_alloc ?_ _)); refine blk_far ?_ NB361_368.out _; (with_reducible repeat (first | refine blk_drewN ?_ _ | refine blk_drew ?_ | refine blk_alloc ?_ _)); exact BK361.out⟩, ⟨by (with_reducible repeat (first | refine blk_drewN ?_ _ | refine blk_drew ?_ | refine blk_alloc ?_ _)); refine blk_far ?_ NB362_368.out _; (with_reducible repeat (first | refine blk_drewN ?_ _ | refine blk_drew ?_ | refine blk_alloc ?_ _)); refine blk_far ?_ NB362_368.out _; (with_reducible repeat (first | refine blk_drewN ?_ _ | refine blk_drew ?_ | refine blk_alloc ?_ _)); refine blk_far ?_ NB362_368.out _; (with_reducible repeat (first | refine blk_drewN ?_ _ | refine blk_drew ?_ | refine blk_alloc ?_ _)); exact BK362.out⟩, ⟨by (with_reducible repeat (first | refine blk_drewN ?_ _ | refine blk_drew ?_ | refine blk_alloc ?_ _)); refine blk_far ?_ NB363_368.out _; (with_reducible repeat (first | refine blk_drewN ?_ _ | refine blk_drew ?_ | refine blk_alloc ?_ _)); refine blk_far ?_ NB363_368.out _; (with_reducible repeat (first | refine blk_drewN ?_ _ | refine blk_drew ?_ | refine blk_alloc ?_ _)); refine blk_far ?_ NB363_368.out _; (with_reducible repeat (first | refine blk_drewN ?_ _ | refine blk_drew ?_ | refine blk_alloc ?_ _)); exact BK363.out⟩, ⟨by (with_reducible repeat (first | refine blk_drewN ?_ _ | refine blk_drew ?_ | refine blk_alloc ?_ _)); refine blk_put (cs := #[.int .i64 t365, .int .i64 t366, .int .i64 0]) ?_ 2 _ rfl; (with_reducible repeat (first | refine blk_drewN ?_ _ | refine blk_drew ?_ | refine blk_alloc ?_ _)); refine blk_put (cs := #[.int .i64 t365, .int .i64 0, .int .i64 0]) ?_ 1 _ rfl; (with_reducible repeat (first | refine blk_drewN ?_ _ | refine blk_drew ?_ | refine blk_alloc ?_ _)); refine blk_put (cs := #[.int .i64 0, .int .i64 0, .int .i64 0]) ?_ 0 _ rfl; (with_reducible repeat (first | refine blk_drewN ?_ _ | refine blk_drew ?_ | refine blk_alloc ?_ _)); exact BK368.out⟩, ⟨by repeat (first | (with_reducible first | exact HB.out | apply below_alloc | apply pw_below_drewN | apply below_drew1 | refine below_set ?_ GE361.out | refine below_set ?_ GE362.out | refine below_set ?_ GE363.out | refine below_set ?_ GE368.out) | exact HB.out)⟩⟩
          · rw [if_neg c50] at H
            have c50b0 : (t365 == 2) = false := beq_eq_false_iff_ne.mpr c50
            have c50b1 : (t365 != 2) = true := bne_iff_ne.mpr c50
            have H' := Aside0.mk H
            clear H
            have hnb71 := NB361_362.out
            have hnc71 := NB362_361.out
            have hnb72 := NB361_363.out
            have hnc72 := NB363_361.out
            have hnb73 := NB361_368.out
            have hnc73 := NB368_361.out
            have hcz74_0 : w19.cell? ⟨gb361, 0, none⟩ = some (.int .i64 a0_0) := (blk_cell BK361.out 0).trans rfl
            have hcz74_1 : w19.cell? ⟨gb361, 1, none⟩ = some (.slice A0_1 l0_1.length c0_1) := (blk_cell BK361.out 1).trans rfl
            have hcz74_2 : w19.cell? ⟨gb361, 2, none⟩ = some (.slice A0_2 l0_2.length c0_2) := (blk_cell BK361.out 2).trans rfl
            have hcz74_3 : w19.cell? ⟨gb361, 3, none⟩ = some (.bool false) := (blk_cell BK361.out 3).trans rfl
            have hfz74_0 := blk_frozen BK361.out 0
            have hfz74_1 := blk_frozen BK361.out 1
            have hfz74_2 := blk_frozen BK361.out 2
            have hfz74_3 := blk_frozen BK361.out 3
            have hnb75 := NB368_362.out
            have hnc75 := NB362_368.out
            have hnb76 := NB368_363.out
            have hnc76 := NB363_368.out
            have hcz77_0 : w19.cell? ⟨gb368, 0, none⟩ = some (.int .i64 0) := (blk_cell BK368.out 0).trans rfl
            have hcz77_1 : w19.cell? ⟨gb368, 1, none⟩ = some (.int .i64 0) := (blk_cell BK368.out 1).trans rfl
            have hcz77_2 : w19.cell? ⟨gb368, 2, none⟩ = some (.int .i64 0) := (blk_cell BK368.out 2).trans rfl
            have hfz77_0 := blk_frozen BK368.out 0
            have hfz77_1 := blk_frozen BK368.out 1
            have hfz77_2 := blk_frozen BK368.out 2
            go_wp2
            go_meet
            case rel => exact ⟨_, (true), (by first | rfl | (simp; done) | (simp [*]; done)), H', ⟨by first | omega | exact Nat.le_refl _⟩, ⟨by (with_reducible repeat (first | refine blk_drewN ?_ _ | refine blk_drew ?_ | refine blk_alloc ?_ _)); refine blk_far ?_ NB361_368.out _; (with_reducible repeat (first | refine blk_drewN ?_ _ | refine blk_drew ?_ | refine blk_alloc ?_ _)); refine blk_far ?_ NB361_368.out _; (with_reducible repeat (first | refine blk_drewN ?_ _ | refine blk_drew ?_ | refine blk_alloc ?_ _)); refine blk_far ?_ NB361_368.out _; (with_reducible repeat (first | refine blk_drewN ?_ _ | refine blk_drew ?_ | refine blk_alloc ?_ _)); exact BK361.out⟩, ⟨by (with_reducible repeat (first | refine blk_drewN ?_ _ | refine blk_drew ?_ | refine blk_alloc ?_ _)); refine blk_far ?_ NB362_368.out _; (with_reducible repeat (first | refine blk_drewN ?_ _ | refine blk_drew ?_ | refine blk_alloc ?_ _)); refine blk_far ?_ NB362_368.out _; (with_reducible repeat (first | refine blk_drewN ?_ _ | refine blk_drew ?_ | refine blk_alloc ?_ _)); refine blk_far ?_ NB362_368.out _; (with_reducible repeat (first | refine blk_drewN ?_ _ | refine blk_drew ?_ | refine blk_alloc ?_ _)); exact BK362.out⟩, ⟨by (with_reducible repeat (first | refine blk_drewN ?_ _ | refine blk_drew ?_ | refine blk_alloc ?_ _)); refine blk_far ?_ NB363_368.out _; (with_reducible repeat (first | refine blk_drewN ?_ _ | refine blk_drew ?_ | refine blk_alloc ?_ _)); refine blk_far ?_ NB363_368.out _; (with_reducible repeat (first | refine blk_drewN ?_ _ | refine blk_drew ?_ | refine blk_alloc ?_ _)); refine blk_far ?_ NB363_368.out _; (with_reducible repeat (first | refine blk_drewN ?_ _ | refine blk_drew ?_ | refine blk_alloc ?_ _)); exact BK363.out⟩, ⟨by (with_reducible repeat (first | refine blk_drewN ?_ _ | refine blk_drew ?_ | refine blk_alloc ?_ _)); refine blk_put (cs := #[.int .i64 t365, .int .i64 t366, .int .i64 0]) ?_ 2 _ rfl; (with_reducible repeat (first | refine blk_drewN ?_ _ | refine blk_drew ?_ | refine blk_alloc ?_ _)); refine blk_put (cs := #[.int .i64 t365, .int .i64 0, .int .i64 0]) ?_ 1 _ rfl; (with_reducible repeat (first | refine blk_drewN ?_ _ | refine blk_drew ?_ | refine blk_alloc ?_ _)); refine blk_put (cs := #[.int .i64 0, .int .i64 0, .int .i64 0]) ?_ 0 _ rfl; (with_reducible repeat (first | refine blk_drewN ?_ _ | refine blk_drew ?_ | refine blk_alloc ?_ _)); exact BK368.out⟩, ⟨by repeat (first | (with_reducible first | exact HB.out | apply below_alloc | apply pw_below_drewN | apply below_drew1 | refine below_set ?_ GE361.out | refine below_set ?_ GE362.out | refine below_set ?_ GE363.out | refine below_set ?_ GE368.out) | exact HB.out)⟩⟩
    case rest =>
      clear HC6
      try clear c1
      try clear c2
      try clear p2
      try clear c3
      try clear c4
      try clear c4b0
      try clear c4b1
      try clear c5
      try clear c6
      try clear c7
      try clear c10
      try clear c11
      try clear c13
      try clear c20
      try clear c21
      try clear c22
      try clear c24
      try clear c25
      try clear c26
      try clear c27
      try clear c29
      try clear c29b0
      try clear c29b1
      try clear c30
      try clear c30b0
      try clear c30b1
      try clear c32
      try clear c33
      try clear c34
      try clear c36
      try clear c37
      try clear c39
      try clear c41
      try clear c42
      try clear c43
      try clear c45
      try clear c46
      try clear c48
      try clear c50
      try clear c50b0
      try clear c50b1
      try clear c51
      try clear c51b0
      try clear c51b1
      try clear c53
      try clear c54
      try clear c55
      try clear c57
      try clear c58
      try clear c60
      try clear c62
      try clear c63
      try clear c64
      try clear c66
      try clear c67
      try clear c69
      try clear c71
      try clear c72
      try clear c73
      try clear c75
      try clear c76
      try clear hcz12_0
      try clear hcz12_1
      try clear hcz12_2
      try clear hcz12_3
      try clear hcz14_0
      try clear hcz14_1
      try clear hcz16_0
      try clear hcz16_1
      try clear hcz16_2
      try clear hcz16_3
      try clear hcz17_0
      try clear hcz17_1
      try clear hcz23_0
      try clear hcz23_1
      try clear hcz23_2
      try clear hcz28_0
      try clear hcz28_1
      try clear hcz28_2
      try clear hcz28_3
      try clear hcz35_0
      try clear hcz35_1
      try clear hcz35_2
      try clear hcz35_3
      try clear hcz38_0
      try clear hcz38_1
      try clear hcz38_2
      try clear hcz40_0
      try clear hcz40_1
      try clear hcz44_0
      try clear hcz44_1
      try clear hcz44_2
      try clear hcz44_3
      try clear hcz47_0
      try clear hcz47_1
      try clear hcz47_2
      try clear hcz49_0
      try clear hcz49_1
      try clear hcz56_0
      try clear hcz56_1
      try clear hcz56_2
      try clear hcz56_3
      try clear hcz59_0
      try clear hcz59_1
      try clear hcz59_2
      try clear hcz61_0
      try clear hcz61_1
      try clear hcz65_0
      try clear hcz65_1
      try clear hcz65_2
      try clear hcz65_3
      try clear hcz68_0
      try clear hcz68_1
      try clear hcz68_2
      try clear hcz70_0
      try clear hcz70_1
      try clear hcz74_0
      try clear hcz74_1
      try clear hcz74_2
      try clear hcz74_3
      try clear hcz77_0
      try clear hcz77_1
      try clear hcz77_2
      try clear hfz12_0
      try clear hfz12_1
      try clear hfz12_2
      try clear hfz12_3
      try clear hfz14_0
      try clear hfz14_1
      try clear hfz16_0
      try clear hfz16_1
      try clear hfz16_2
      try clear hfz16_3
      try clear hfz17_0
      try clear hfz17_1
      try clear hfz23_0
      try clear hfz23_1
      try clear hfz23_2
      try clear hfz28_0
      try clear hfz28_1
      try clear hfz28_2
      try clear hfz28_3
      try clear hfz35_0
      try clear hfz35_1
      try clear hfz35_2
      try clear hfz35_3
      try clear hfz38_0
      try clear hfz38_1
      try clear hfz38_2
      try clear hfz40_0
      try clear hfz40_1
      try clear hfz44_0
      try clear hfz44_1
      try clear hfz44_2
      try clear hfz44_3
      try clear hfz47_0
      try clear hfz47_1
      try clear hfz47_2
      try clear hfz49_0
      try clear hfz49_1
      try clear hfz56_0
      try clear hfz56_1
      try clear hfz56_2
      try clear hfz56_3
      try clear hfz59_0
      try clear hfz59_1
      try clear hfz59_2
      try clear hfz61_0
      try clear hfz61_1
      try clear hfz65_0
      try clear hfz65_1
      try clear hfz65_2
      try clear hfz65_3
      try clear hfz68_0
      try clear hfz68_1
      try clear hfz68_2
      try clear hfz70_0
      try clear hfz70_1
      try clear hfz74_0
      try clear hfz74_1
      try clear hfz74_2
      try clear hfz74_3
      try clear hfz77_0
      try clear hfz77_1
      try clear hfz77_2
      obtain ⟨kq, x43_5, rfl, HA, HJ5, BK361, BK362, BK363, BK368, HB⟩ := hcut
      cases kq with
      | zero => exact absurd HA.out (by simp [winnowref19_Begin.j0])
      | succ kj5 =>
        have H := HA.out
        clear HA
        simp only [winnowref19_Begin.j0] at H
        by_cases c78 : x43_5 = true
        · subst c78
          have H1 : (some (0, ([] : List (S38)), ([] : List (S38)), false, 0, false, 192)) = some (r1, r2, r3, r4, r5, r6, r7) := by rw [if_pos rfl] at H; exact H
          clear H
          have H := H1
          clear H1
          simp only [Option.some.injEq, Prod.mk.injEq] at H
          obtain ⟨rfl, rfl, rfl, rfl, rfl, rfl, rfl⟩ := H
          have hnb79 := NB363_361.out
          have hnc79 := NB361_363.out
          have hnb80 := NB363_362.out
          have hnc80 := NB362_363.out
          have hnb81 := NB363_368.out
          have hnc81 := NB368_363.out
          have hcz82_0 : wc.cell? ⟨gb363, 0, none⟩ = some (.int .i64 0) := (blk_cell BK363.out 0).trans rfl
          have hcz82_1 : wc.cell? ⟨gb363, 1, none⟩ = some (.slice none 0 0) := (blk_cell BK363.out 1).trans rfl
          have hcz82_2 : wc.cell? ⟨gb363, 2, none⟩ = some (.slice none 0 0) := (blk_cell BK363.out 2).trans rfl
          have hcz82_3 : wc.cell? ⟨gb363, 3, none⟩ = some (.bool false) := (blk_cell BK363.out 3).trans rfl
          have hfz82_0 := blk_frozen BK363.out 0
          have hfz82_1 := blk_frozen BK363.out 1
          have hfz82_2 := blk_frozen BK363.out 2
          have hfz82_3 := blk_frozen BK363.out 3
          go_wp2
          refine bodyPost_ret (results_list (rs := [.cell 4 24, .tmp 5, .tmp 6, .tmp 7]) rfl (by simp) (.cell gb363 24 #[.int .i64 0, .slice none 0 0, .slice none 0 0, .bool false] (0, 0) _ rfl (by (with_reducible repeat (first | refine blk_drewN ?_ _ | refine blk_drew ?_ | refine blk_alloc ?_ _)); refine blk_put (cs := #[.int .i64 0, .slice none 0 0, .slice none 0 0, .bool false]) ?_ 3 _ rfl; (with_reducible repeat (first | refine blk_drewN ?_ _ | refine blk_drew ?_ | refine blk_alloc ?_ _)); refine blk_put (cs := #[.int .i64 0, .slice none 0 0, .slice none 0 0, .bool false]) ?_ 2 _ rfl; (with_reducible repeat (first | refine blk_drewN ?_ _ | refine blk_drew ?_ | refine blk_alloc ?_ _)); refine blk_put (cs := #[.int .i64 0, .slice none 0 0, .slice none 0 0, .bool false]) ?_ 1 _ rfl; (with_reducible repeat (first | refine blk_drewN ?_ _ | refine blk_drew ?_ | refine blk_alloc ?_ _)); refine blk_put (cs := #[.int .i64 0, .slice none 0 0, .slice none 0 0, .bool false]) ?_ 0 _ rfl; (with_reducible repeat (first | refine blk_drewN ?_ _ | refine blk_drew ?_ | refine blk_alloc ?_ _)); exact BK363.out) Tryd.underlying24 rfl (by kernel_rfl) (.tmp (.tmp (.tmp .nil))))) rfl ?_
          exact ⟨_, _, by first | rfl | (simp [errW_none, errW_some] <;> rfl) | (simp [*, errW_none, errW_some] <;> rfl) | (simp [errW_none, errW_some]; exact ⟨rfl, rfl⟩) | (simp [*, errW_none, errW_some]; exact ⟨rfl, rfl⟩), by first | exact Kd.R_nil _ _ _ _ _ | exact Kd.N_nil _ _ _ _ _ | exact Kd.V_nil _ _ _ _ _ | exact Kd.Q_nil _ _ _ _ _ | exact Kd.S_nil _ _ _ _ _, by first | exact Kd.R_nil _ _ _ _ _ | exact Kd.N_nil _ _ _ _ _ | exact Kd.V_nil _ _ _ _ _ | exact Kd.Q_nil _ _ _ _ _ | exact Kd.S_nil _ _ _ _ _, by repeat (first | (with_reducible first | exact HB.out | apply below_alloc | apply pw_below_drewN | apply below_drew1 | refine below_set ?_ GE361.out | refine below_set ?_ GE362.out | refine below_set ?_ GE363.out | refine below_set ?_ GE368.out) | exact HB.out)⟩
        · replace c78 := Bool.eq_false_iff.mpr c78
          subst c78
          have H1 : (if t365 = 0 then ((winnowref19_with.f a0_0 l0_1 l0_2 a0_3 a1_0 a1_1 1 (wrap64 (t366 + 1)) t367).bind fun bt371 => (some (bt371.1, bt371.2.1, bt371.2.2.1, bt371.2.2.2, wrap64 (t366 + 1), (t365 == 0), 0))) else ((winnowref19_with.f a0_0 l0_1 l0_2 a0_3 a1_0 a1_1 1 t366 t367).bind fun bt379 => (some (bt379.1, bt379.2.1, bt379.2.2.1, bt379.2.2.2, t366, (t365 == 0), 0)))) = some (r1, r2, r3, r4, r5, r6, r7) := by rw [if_neg (show ¬ (false = true) by decide)] at H; exact H
          clear H
          have H := H1
          clear H1
          by_cases c83 : t365 = 0
          · rw [if_pos c83] at H
            have c83b0 : (t365 == 0) = true := beq_iff_eq.mpr c83
            have c83b1 : (t365 != 0) = false := bne_eq_false_iff_eq.mpr c83
            clear c83
            replace H := Option.bind_eq_some_iff.mp H
            obtain ⟨⟨t371, t372, t375, t378⟩, A840, H⟩ := H
            replace H : (some (t371, t372, t375, t378, wrap64 (t366 + 1), (t365 == 0), 0)) = some (r1, r2, r3, r4, r5, r6, r7) := H
            have A84 := Aside0.mk A840
            clear A840
            simp only [Option.some.injEq, Prod.mk.injEq] at H
            obtain ⟨rfl, rfl, rfl, rfl, rfl, rfl, rfl⟩ := H
            have hnb85 := NB368_361.out
            have hnc85 := NB361_368.out
            have hnb86 := NB368_362.out
            have hnc86 := NB362_368.out
            have hnb87 := NB368_363.out
            have hnc87 := NB363_368.out
            have hcz88_0 : wc.cell? ⟨gb368, 0, none⟩ = some (.int .i64 t365) := (blk_cell BK368.out 0).trans rfl
            have hcz88_1 : wc.cell? ⟨gb368, 1, none⟩ = some (.int .i64 t366) := (blk_cell BK368.out 1).trans rfl
            have hcz88_2 : wc.cell? ⟨gb368, 2, none⟩ = some (.int .i64 t367) := (blk_cell BK368.out 2).trans rfl
            have hfz88_0 := blk_frozen BK368.out 0
            have hfz88_1 := blk_frozen BK368.out 1
            have hfz88_2 := blk_frozen BK368.out 2
            try go_wp2
            have n0_ : Aside0 (((wc.setCell ⟨gb368, 1, none⟩ (.int .i64 (wrap64 (t366 + 1)))).setCell ⟨gb368, 0, none⟩ (.int .i64 1)).heap[gb361]? = some (.cells #[.int .i64 a0_0, .slice A0_1 l0_1.length c0_1, .slice A0_2 l0_2.length c0_2, .bool a0_3] 24 (0, 0))) := ⟨by (with_reducible repeat (first | refine blk_drewN ?_ _ | refine blk_drew ?_ | refine blk_alloc ?_ _)); refine blk_far ?_ NB361_368.out _; (with_reducible repeat (first | refine blk_drewN ?_ _ | refine blk_drew ?_ | refine blk_alloc ?_ _)); refine blk_far ?_ NB361_368.out _; (with_reducible repeat (first | refine blk_drewN ?_ _ | refine blk_drew ?_ | refine blk_alloc ?_ _)); exact BK361.out⟩
            have n1_ : Aside0 (((wc.setCell ⟨gb368, 1, none⟩ (.int .i64 (wrap64 (t366 + 1)))).setCell ⟨gb368, 0, none⟩ (.int .i64 1)).heap[gb362]? = some (.cells #[.int .i64 a1_0, .int .i64 a1_1] 29 (0, 0))) := ⟨by (with_reducible repeat (first | refine blk_drewN ?_ _ | refine blk_drew ?_ | refine blk_alloc ?_ _)); refine blk_far ?_ NB362_368.out _; (with_reducible repeat (first | refine blk_drewN ?_ _ | refine blk_drew ?_ | refine blk_alloc ?_ _)); refine blk_far ?_ NB362_368.out _; (with_reducible repeat (first | refine blk_drewN ?_ _ | refine blk_drew ?_ | refine blk_alloc ?_ _)); exact BK362.out⟩
            have n2_ : Aside0 (((wc.setCell ⟨gb368, 1, none⟩ (.int .i64 (wrap64 (t366 + 1)))).setCell ⟨gb368, 0, none⟩ (.int .i64 1)).heap[gb363]? = some (.cells #[.int .i64 0, .slice none 0 0, .slice none 0 0, .bool false] 24 (0, 0))) := ⟨by (with_reducible repeat (first | refine blk_drewN ?_ _ | refine blk_drew ?_ | refine blk_alloc ?_ _)); refine blk_far ?_ NB363_368.out _; (with_reducible repeat (first | refine blk_drewN ?_ _ | refine blk_drew ?_ | refine blk_alloc ?_ _)); refine blk_far ?_ NB363_368.out _; (with_reducible repeat (first | refine blk_drewN ?_ _ | refine blk_drew ?_ | refine blk_alloc ?_ _)); exact BK363.out⟩
            have n3_ : Aside0 (((wc.setCell ⟨gb368, 1, none⟩ (.int .i64 (wrap64 (t366 + 1)))).setCell ⟨gb368, 0, none⟩ (.int .i64 1)).heap[gb368]? = some (.cells #[.int .i64 1, .int .i64 (wrap64 (t366 + 1)), .int .i64 t367] 38 (0, 0))) := ⟨by (with_reducible repeat (first | refine blk_drewN ?_ _ | refine blk_drew ?_ | refine blk_alloc ?_ _)); refine blk_put (cs := #[.int .i64 t365, .int .i64 (wrap64 (t366 + 1)), .int .i64 t367]) ?_ 0 _ rfl; (with_reducible repeat (first | refine blk_drewN ?_ _ | refine blk_drew ?_ | refine blk_alloc ?_ _)); refine blk_put (cs := #[.int .i64 t365, .int .i64 t366, .int .i64 t367]) ?_ 1 _ rfl; (with_reducible repeat (first | refine blk_drewN ?_ _ | refine blk_drew ?_ | refine blk_alloc ?_ _)); exact BK368.out⟩
            have n4_ : Aside0 (Below w.heap.size w ((wc.setCell ⟨gb368, 1, none⟩ (.int .i64 (wrap64 (t366 + 1)))).setCell ⟨gb368, 0, none⟩ (.int .i64 1))) := ⟨by repeat (first | (with_reducible first | exact HB.out | apply below_alloc | apply pw_below_drewN | apply below_drew1 | refine below_set ?_ GE361.out | refine below_set ?_ GE362.out | refine below_set ?_ GE363.out | refine below_set ?_ GE368.out) | exact HB.out)⟩
            (try clear BK361)
            (try clear BK362)
            (try clear BK363)
            (try clear BK368)
            (try clear HB)
            generalize ((wc.setCell ⟨gb368, 1, none⟩ (.int .i64 (wrap64 (t366 + 1)))).setCell ⟨gb368, 0, none⟩ (.int .i64 1)) = w89 at n0_ n1_ n2_ n3_ n4_ ⊢
            have BK361 := n0_
            have BK362 := n1_
            have BK363 := n2_
            have BK368 := n3_
            have HB := n4_
            clear n0_ n1_ n2_ n3_ n4_
            have n0_ := Aside0.mk (blk_drew BK361.out)
            have n1_ := Aside0.mk (blk_drew BK362.out)
            have n2_ := Aside0.mk (blk_drew BK363.out)
            have n3_ := Aside0.mk (blk_drew BK368.out)
            have n4_ := Aside0.mk (below_drew1 HB.out)
            clear BK361
            clear BK362
            clear BK363
            clear BK368
            clear HB
            have BK361 := n0_
            have BK362 := n1_
            have BK363 := n2_
            have BK368 := n3_
            have HB := n4_
            clear n0_ n1_ n2_ n3_ n4_
            refine start_ (n := 11) (S := fun w' => w'.cell? ⟨gb361, 0, none⟩ = some (.int .i64 a0_0) ∧ w'.cell? ⟨gb361, 1, none⟩ = some (.slice A0_1 l0_1.length c0_1) ∧ w'.cell? ⟨gb361, 2, none⟩ = some (.slice A0_2 l0_2.length c0_2) ∧ w'.cell? ⟨gb361, 3, none⟩ = some (.bool a0_3) ∧ w'.cell? ⟨gb362, 0, none⟩ = some (.int .i64 a1_0) ∧ w'.cell? ⟨gb362, 1, none⟩ = some (.int .i64 a1_1) ∧ w'.cell? ⟨gb368, 0, none⟩ = some (.int .i64 1) ∧ w'.cell? ⟨gb368, 1, none⟩ = some (.int .i64 (wrap64 (t366 + 1))) ∧ w'.cell? ⟨gb368, 2, none⟩ = some (.int .i64 t367)) (ds := []) #[false, false, false, false, false, false, false, false, false, false, false] (by kernel_rfl) rfl rfl ⟨(blk_cell BK361.out 0).trans rfl, (blk_cell BK361.out 1).trans rfl, (blk_cell BK361.out 2).trans rfl, (blk_cell BK361.out 3).trans rfl, (blk_cell BK362.out 0).trans rfl, (blk_cell BK362.out 1).trans rfl, (blk_cell BK368.out 0).trans rfl, (blk_cell BK368.out 1).trans rfl, (blk_cell BK368.out 2).trans rfl⟩ (fun hHeld => ?_); refine with_tabW winnowref19_Begin.tab11 winnowref19_Begin.bits11 (fun HT_ HW_ => ?_)
            generalize w89.drew = w90 at BK361 BK362 BK363 BK368 HB hHeld ⊢
            refine pure_ (i := 4) (N := some 58) (v := ?_) (a' := ?_) #[false, false, false, false, true, false, false, false, false, false, false] rfl rfl (any_of HT_.out (by kernel_rfl)) (fun _ _ _ h => h) (Or.inl ⟨by rfl, ?_⟩) ?_ ?_
            rotate_left
            · intro w'
              go_simp
              with_reducible rfl
            rotate_left
            · simp only [Act.put, List.setIfInBounds_toArray, List.set_cons_zero, List.set_cons_succ, i64_w, i32_w]
              rfl
            refine pure_ (i := 6) (N := some 60) (v := ?_) (a' := ?_) #[false, false, false, false, true, false, true, false, false, false, false] rfl rfl (any_of HT_.out (by kernel_rfl)) (fun _ _ _ h => h) (Or.inl ⟨by rfl, ?_⟩) ?_ ?_
            rotate_left
            · intro w'
              go_simp
              with_reducible rfl
            rotate_left
            · simp only [Act.put, List.setIfInBounds_toArray, List.set_cons_zero, List.set_cons_succ, i64_w, i32_w]
              rfl
            refine take_ (i := 0) (N := some 54) (v := ?_) (a' := ?_) #[true, false, false, false, true, false, true, false, false, false, false] rfl rfl (take_ofW HT_.out HW_.out (by kernel_rfl)) (fun _ _ _ h => h) (Or.inl ⟨by rfl, ?_⟩) hHeld ?_ ?_
            rotate_left
            · rintro w' ⟨s0, s1, s2, s3, s4, s5, s6, s7, s8⟩
              go_simp
              with_reducible rfl
            rotate_left
            · simp only [Act.put, List.setIfInBounds_toArray, List.set_cons_zero, List.set_cons_succ, i64_w, i32_w]
              rfl
            refine take_ (i := 1) (N := some 55) (v := ?_) (a' := ?_) #[true, true, false, false, true, false, true, false, false, false, false] rfl rfl (take_ofW HT_.out HW_.out (by kernel_rfl)) (fun _ _ _ h => h) (Or.inl ⟨by rfl, ?_⟩) hHeld ?_ ?_
            rotate_left
            · rintro w' ⟨s0, s1, s2, s3, s4, s5, s6, s7, s8⟩
              go_simp
              with_reducible rfl
            rotate_left
            · simp only [Act.put, List.setIfInBounds_toArray, List.set_cons_zero, List.set_cons_succ, i64_w, i32_w]
              rfl
            refine take_ (i := 2) (N := some 56) (v := ?_) (a' := ?_) #[true, true, true, false, true, false, true, false, false, false, false] rfl rfl (take_ofW HT_.out HW_.out (by kernel_rfl)) (fun _ _ _ h => h) (Or.inl ⟨by rfl, ?_⟩) hHeld ?_ ?_
            rotate_left
            · rintro w' ⟨s0, s1, s2, s3, s4, s5, s6, s7, s8⟩
              go_simp
              with_reducible rfl
            rotate_left
            · simp only [Act.put, List.setIfInBounds_toArray, List.set_cons_zero, List.set_cons_succ, i64_w, i32_w]
              rfl
            refine take_ (i := 5) (N := some 59) (v := ?_) (a' := ?_) #[true, true, true, false, true, true, true, false, false, false, false] rfl rfl (take_ofW HT_.out HW_.out (by kernel_rfl)) (fun _ _ _ h => h) (Or.inl ⟨by rfl, ?_⟩) hHeld ?_ ?_
            rotate_left
            · rintro w' ⟨s0, s1, s2, s3, s4, s5, s6, s7, s8⟩
              go_simp
              with_reducible rfl
            rotate_left
            · simp only [Act.put, List.setIfInBounds_toArray, List.set_cons_zero, List.set_cons_succ, i64_w, i32_w]
              rfl
            refine one_ (i := 3) (N := some 57) #[true, true, true, true, true, true, true, false, false, false, false] rfl rfl (one_of HT_.out (by kernel_rfl)) (by decide) (fun K hK => ?_)
            refine goes_ Tryd.func49 (by kernel_rfl) rfl #[.agg #[.int .i64 a0_0, .slice A0_1 l0_1.length c0_1, .slice A0_2 l0_2.length c0_2, .bool a0_3], .agg #[.int .i64 a1_0, .int .i64 a1_1], .agg #[.int .i64 1, .int .i64 (wrap64 (t366 + 1)), .int .i64 t367]] (by rfl) rfl rfl (by (try simp only [List.map_toArray, List.map_cons, List.map_nil]); first | done | rfl | (simp only [List.length_drop, List.length_take]; rfl)) ?_
            with_reducible refine (winnowref19_with.calls a0_0 _ _ l0_1 _ _ l0_2 a0_3 a1_0 a1_1 1 (wrap64 (t366 + 1)) t367 t371 t372 t375 t378 _ ?side1 ?side2 ?side3 ?side4 A84.out).mono ?_
            (case side1 => repeat (first | exact (Kd.C_below HR0_1.out HB.out) | (with_reducible refine Kd.C_alloc ?_ _) | (with_reducible refine Kd.C_drewN ?_ _) | (with_reducible refine Kd.C_drew ?_)))
            (case side2 => exact HC0_1.out)
            (case side3 => repeat (first | exact (Kd.C_below HR0_2.out HB.out) | (with_reducible refine Kd.C_alloc ?_ _) | (with_reducible refine Kd.C_drewN ?_ _) | (with_reducible refine Kd.C_drew ?_)))
            (case side4 => exact HC0_2.out)
            rintro e w91 ⟨v373, v376, rfl, ho0, ho1, hb⟩
            refine ⟨_, rfl, ?_⟩
            have n0_ := Aside0.mk (Kd.R_lower (Kd.R_newB ho0 (g := gb368) (o := .cells #[.int .i64 1, .int .i64 (wrap64 (t366 + 1)), .int .i64 t367] 38 (0, 0)) (by (with_reducible repeat (first | refine blk_drewN ?_ _ | refine blk_drew ?_ | refine blk_alloc ?_ _)); exact BK368.out)) (below_size (by repeat (first | (with_reducible first | exact HB.out | apply below_alloc | apply pw_below_drewN | apply below_drew1 | refine below_set ?_ GE361.out | refine below_set ?_ GE362.out | refine below_set ?_ GE363.out | refine below_set ?_ GE368.out) | exact HB.out))))
            have n1_ := Aside0.mk (Kd.R_lower (Kd.R_newB ho1 (g := gb368) (o := .cells #[.int .i64 1, .int .i64 (wrap64 (t366 + 1)), .int .i64 t367] 38 (0, 0)) (by (with_reducible repeat (first | refine blk_drewN ?_ _ | refine blk_drew ?_ | refine blk_alloc ?_ _)); exact BK368.out)) (below_size (by repeat (first | (with_reducible first | exact HB.out | apply below_alloc | apply pw_below_drewN | apply below_drew1 | refine below_set ?_ GE361.out | refine below_set ?_ GE362.out | refine below_set ?_ GE363.out | refine below_set ?_ GE368.out) | exact HB.out))))
            have n2_ := Aside0.mk (blk_below (g := gb361) (o := .cells #[.int .i64 a0_0, .slice A0_1 l0_1.length c0_1, .slice A0_2 l0_2.length c0_2, .bool a0_3] 24 (0, 0)) (by (with_reducible repeat (first | refine blk_drewN ?_ _ | refine blk_drew ?_ | refine blk_alloc ?_ _)); exact BK361.out) hb)
            have n3_ := Aside0.mk (blk_below (g := gb362) (o := .cells #[.int .i64 a1_0, .int .i64 a1_1] 29 (0, 0)) (by (with_reducible repeat (first | refine blk_drewN ?_ _ | refine blk_drew ?_ | refine blk_alloc ?_ _)); exact BK362.out) hb)
            have n4_ := Aside0.mk (blk_below (g := gb363) (o := .cells #[.int .i64 0, .slice none 0 0, .slice none 0 0, .bool false] 24 (0, 0)) (by (with_reducible repeat (first | refine blk_drewN ?_ _ | refine blk_drew ?_ | refine blk_alloc ?_ _)); exact BK363.out) hb)
            have n5_ := Aside0.mk (blk_below (g := gb368) (o := .cells #[.int .i64 1, .int .i64 (wrap64 (t366 + 1)), .int .i64 t367] 38 (0, 0)) (by (with_reducible repeat (first | refine blk_drewN ?_ _ | refine blk_drew ?_ | refine blk_alloc ?_ _)); exact BK368.out) hb)
            have n6_ := Aside0.mk (below_step (by repeat (first | (with_reducible first | exact HB.out | apply below_alloc | apply pw_below_drewN | apply below_drew1 | refine below_set ?_ GE361.out | refine below_set ?_ GE362.out | refine below_set ?_ GE363.out | refine below_set ?_ GE368.out) | exact HB.out)) hb)
            clear BK361
            clear BK362
            clear BK363
            clear BK368
            clear HB
            have HO374 := n0_
            have HO377 := n1_
            have BK361 := n2_
            have BK362 := n3_
            have BK363 := n4_
            have BK368 := n5_
            have HB := n6_
            clear n0_ n1_ n2_ n3_ n4_ n5_ n6_
            (try clear hb)
            (try clear hb2)
            (try clear hk)
            (try clear hi)
            (try clear ho0)
            (try clear ho1)
            obtain ⟨Ao93, co93, eo93⟩ := Kd.R_slice HO374.out
            (first | subst eo93 | (injection eo93 with f1_ f2_ f3_; have f4_ := f1_.symm; have f5_ := f3_.symm; clear f1_ f2_ f3_; subst f4_; subst f5_))
            obtain ⟨Ao95, co95, eo95⟩ := Kd.R_slice HO377.out
            (first | subst eo95 | (injection eo95 with f1_ f2_ f3_; have f4_ := f1_.symm; have f5_ := f3_.symm; clear f1_ f2_ f3_; subst f4_; subst f5_))
            refine hK.out _ _ ⟨(blk_cell BK361.out 0).trans rfl, (blk_cell BK361.out 1).trans rfl, (blk_cell BK361.out 2).trans rfl, (blk_cell BK361.out 3).trans rfl, (blk_cell BK362.out 0).trans rfl, (blk_cell BK362.out 1).trans rfl, (blk_cell BK368.out 0).trans rfl, (blk_cell BK368.out 1).trans rfl, (blk_cell BK368.out 2).trans rfl⟩ (fun hHeld => ?_)
            clear hK K
            refine norm_ (a' := ?_) ?_ ?_
            rotate_left
            · show Act.put _ (some 57) _ = _
              simp only [Act.put, List.setIfInBounds_toArray, List.set_cons_zero, List.set_cons_succ, i64_w, i32_w]
              rfl
            refine one_ (i := 7) (N := none) #[true, true, true, true, true, true, true, true, false, false, false] rfl rfl (one_of HT_.out (by kernel_rfl)) (by decide) (fun K hK => ?_)
            have hs92 : w91.cell? ⟨gb363, 0, none⟩ = some (.int .i64 0) := (blk_cell BK363.out 0).trans rfl
            have hfs92 := blk_frozen BK363.out 0
            have hns92_0 := NB361_363.out
            have hns92_1 := NB362_363.out
            have hns92_3 := NB368_363.out
            have hms92_0 := NB363_361.out
            have hms92_1 := NB363_362.out
            have hms92_3 := NB363_368.out
            have hs94 : w91.cell? ⟨gb363, 1, none⟩ = some (.slice none 0 0) := (blk_cell BK363.out 1).trans rfl
            have hfs94 := blk_frozen BK363.out 1
            have hns94_0 := NB361_363.out
            have hns94_1 := NB362_363.out
            have hns94_3 := NB368_363.out
            have hms94_0 := NB363_361.out
            have hms94_1 := NB363_362.out
            have hms94_3 := NB363_368.out
            have hs96 : w91.cell? ⟨gb363, 2, none⟩ = some (.slice none 0 0) := (blk_cell BK363.out 2).trans rfl
            have hfs96 := blk_frozen BK363.out 2
            have hns96_0 := NB361_363.out
            have hns96_1 := NB362_363.out
            have hns96_3 := NB368_363.out
            have hms96_0 := NB363_361.out
            have hms96_1 := NB363_362.out
            have hms96_3 := NB363_368.out
            have hs97 : w91.cell? ⟨gb363, 3, none⟩ = some (.bool false) := (blk_cell BK363.out 3).trans rfl
            have hfs97 := blk_frozen BK363.out 3
            have hns97_0 := NB361_363.out
            have hns97_1 := NB362_363.out
            have hns97_3 := NB368_363.out
            have hms97_0 := NB363_361.out
            have hms97_1 := NB363_362.out
            have hms97_3 := NB363_368.out
            refine skip_ (w1 := ?_) (by rfl) rfl ?_ ?_
            rotate_left
            · go_simp
              rfl
            refine hK.out _ _ ⟨((cell_far (p := ⟨gb363, _, none⟩) NB361_363.out _).trans (((cell_far (p := ⟨gb363, _, none⟩) NB361_363.out _).trans (((cell_far (p := ⟨gb363, _, none⟩) NB361_363.out _).trans (((cell_far (p := ⟨gb363, _, none⟩) NB361_363.out _).trans (hHeld.1)))))))), ((cell_far (p := ⟨gb363, _, none⟩) NB361_363.out _).trans (((cell_far (p := ⟨gb363, _, none⟩) NB361_363.out _).trans (((cell_far (p := ⟨gb363, _, none⟩) NB361_363.out _).trans (((cell_far (p := ⟨gb363, _, none⟩) NB361_363.out _).trans (hHeld.2.1)))))))), ((cell_far (p := ⟨gb363, _, none⟩) NB361_363.out _).trans (((cell_far (p := ⟨gb363, _, none⟩) NB361_363.out _).trans (((cell_far (p := ⟨gb363, _, none⟩) NB361_363.out _).trans (((cell_far (p := ⟨gb363, _, none⟩) NB361_363.out _).trans (hHeld.2.2.1)))))))), ((cell_far (p := ⟨gb363, _, none⟩) NB361_363.out _).trans (((cell_far (p := ⟨gb363, _, none⟩) NB361_363.out _).trans (((cell_far (p := ⟨gb363, _, none⟩) NB361_363.out _).trans (((cell_far (p := ⟨gb363, _, none⟩) NB361_363.out _).trans (hHeld.2.2.2.1)))))))), ((cell_far (p := ⟨gb363, _, none⟩) NB362_363.out _).trans (((cell_far (p := ⟨gb363, _, none⟩) NB362_363.out _).trans (((cell_far (p := ⟨gb363, _, none⟩) NB362_363.out _).trans (((cell_far (p := ⟨gb363, _, none⟩) NB362_363.out _).trans (hHeld.2.2.2.2.1)))))))), ((cell_far (p := ⟨gb363, _, none⟩) NB362_363.out _).trans (((cell_far (p := ⟨gb363, _, none⟩) NB362_363.out _).trans (((cell_far (p := ⟨gb363, _, none⟩) NB362_363.out _).trans (((cell_far (p := ⟨gb363, _, none⟩) NB362_363.out _).trans (hHeld.2.2.2.2.2.1)))))))), ((cell_far (p := ⟨gb363, _, none⟩) NB368_363.out _).trans (((cell_far (p := ⟨gb363, _, none⟩) NB368_363.out _).trans (((cell_far (p := ⟨gb363, _, none⟩) NB368_363.out _).trans (((cell_far (p := ⟨gb363, _, none⟩) NB368_363.out _).trans (hHeld.2.2.2.2.2.2.1)))))))), ((cell_far (p := ⟨gb363, _, none⟩) NB368_363.out _).trans (((cell_far (p := ⟨gb363, _, none⟩) NB368_363.out _).trans (((cell_far (p := ⟨gb363, _, none⟩) NB368_363.out _).trans (((cell_far (p := ⟨gb363, _, none⟩) NB368_363.out _).trans (hHeld.2.2.2.2.2.2.2.1)))))))), ((cell_far (p := ⟨gb363, _, none⟩) NB368_363.out _).trans (((cell_far (p := ⟨gb363, _, none⟩) NB368_363.out _).trans (((cell_far (p := ⟨gb363, _, none⟩) NB368_363.out _).trans (((cell_far (p := ⟨gb363, _, none⟩) NB368_363.out _).trans (hHeld.2.2.2.2.2.2.2.2))))))))⟩ (fun hHeld => ?_)
            clear hK K
            refine pure_ (i := 8) (N := some 5) (v := ?_) (a' := ?_) #[true, true, true, true, true, true, true, true, true, false, false] rfl rfl (any_of HT_.out (by kernel_rfl)) (fun _ _ _ h => h) (Or.inl ⟨by rfl, ?_⟩) ?_ ?_
            rotate_left
            · intro w'
              go_simp
              with_reducible rfl
            rotate_left
            · simp only [Act.put, List.setIfInBounds_toArray, List.set_cons_zero, List.set_cons_succ, i64_w, i32_w]
              rfl
            refine pure_ (i := 9) (N := some 6) (v := ?_) (a' := ?_) #[true, true, true, true, true, true, true, true, true, true, false] rfl rfl (any_of HT_.out (by kernel_rfl)) (fun _ _ _ h => h) (Or.inl ⟨by rfl, ?_⟩) ?_ ?_
            rotate_left
            · intro w'
              go_simp
              with_reducible rfl
            rotate_left
            · simp only [Act.put, List.setIfInBounds_toArray, List.set_cons_zero, List.set_cons_succ, i64_w, i32_w]
              rfl
            refine pure_ (i := 10) (N := some 7) (v := ?_) (a' := ?_) #[true, true, true, true, true, true, true, true, true, true, true] rfl rfl (any_of HT_.out (by kernel_rfl)) (fun _ _ _ h => h) (Or.inl ⟨by rfl, ?_⟩) ?_ ?_
            rotate_left
            · intro w'
              go_simp
              with_reducible rfl
            rotate_left
            · simp only [Act.put, List.setIfInBounds_toArray, List.set_cons_zero, List.set_cons_succ, i64_w, i32_w]
              rfl
            refine done_ (done_of HT_.out (by kernel_rfl)) ?_
            try go_wp2
            refine bodyPost_ret (results_list (rs := [.cell 4 24, .tmp 5, .tmp 6, .tmp 7]) rfl (by simp) (.cell gb363 24 #[.int .i64 t371, .slice Ao93 t372.length co93, .slice Ao95 t375.length co95, .bool t378] (0, 0) _ rfl (by (with_reducible repeat (first | refine blk_drewN ?_ _ | refine blk_drew ?_ | refine blk_alloc ?_ _)); refine blk_put (cs := #[.int .i64 t371, .slice Ao93 t372.length co93, .slice Ao95 t375.length co95, .bool false]) ?_ 3 _ rfl; (with_reducible repeat (first | refine blk_drewN ?_ _ | refine blk_drew ?_ | refine blk_alloc ?_ _)); refine blk_put (cs := #[.int .i64 t371, .slice Ao93 t372.length co93, .slice none 0 0, .bool false]) ?_ 2 _ rfl; (with_reducible repeat (first | refine blk_drewN ?_ _ | refine blk_drew ?_ | refine blk_alloc ?_ _)); refine blk_put (cs := #[.int .i64 t371, .slice none 0 0, .slice none 0 0, .bool false]) ?_ 1 _ rfl; (with_reducible repeat (first | refine blk_drewN ?_ _ | refine blk_drew ?_ | refine blk_alloc ?_ _)); refine blk_put (cs := #[.int .i64 0, .slice none 0 0, .slice none 0 0, .bool false]) ?_ 0 _ rfl; (with_reducible repeat (first | refine blk_drewN ?_ _ | refine blk_drew ?_ | refine blk_alloc ?_ _)); exact BK363.out) Tryd.underlying24 rfl (by kernel_rfl) (.tmp (.tmp (.tmp .nil))))) rfl ?_
            exact ⟨_, _, by first | rfl | (simp [errW_none, errW_some] <;> rfl) | (simp [*, errW_none, errW_some] <;> rfl) | (simp [errW_none, errW_some]; exact ⟨rfl, rfl⟩) | (simp [*, errW_none, errW_some]; exact ⟨rfl, rfl⟩), by (with_reducible repeat (first | apply Kd.R_alloc | apply Kd.R_drewN | apply Kd.R_drew)); exact Kd.R_mono (Kd.R_far (p := ⟨gb363, 3, none⟩) (Kd.R_far (p := ⟨gb363, 2, none⟩) (Kd.R_far (p := ⟨gb363, 1, none⟩) (Kd.R_far (p := ⟨gb363, 0, none⟩) (Kd.R_types HO374.out BK363.out (by decide)) (fun _ hk => hk.2) (.int .i64 t371)) (fun _ hk => hk.2) (.slice Ao93 t372.length co93)) (fun _ hk => hk.2) (.slice Ao95 t375.length co95)) (fun _ hk => hk.2) (.bool t378)) (fun _ hk => hk.1.1), by (with_reducible repeat (first | apply Kd.R_alloc | apply Kd.R_drewN | apply Kd.R_drew)); exact Kd.R_mono (Kd.R_far (p := ⟨gb363, 3, none⟩) (Kd.R_far (p := ⟨gb363, 2, none⟩) (Kd.R_far (p := ⟨gb363, 1, none⟩) (Kd.R_far (p := ⟨gb363, 0, none⟩) (Kd.R_types HO377.out BK363.out (by decide)) (fun _ hk => hk.2) (.int .i64 t371)) (fun _ hk => hk.2) (.slice Ao93 t372.length co93)) (fun _ hk => hk.2) (.slice Ao95 t375.length co95)) (fun _ hk => hk.2) (.bool t378)) (fun _ hk => hk.1.1), by repeat (first | (with_reducible first | exact HB.out | apply below_alloc | apply pw_below_drewN | apply below_drew1 | refine below_set ?_ GE361.out | refine below_set ?_ GE362.out | refine below_set ?_ GE363.out | refine below_set ?_ GE368.out) | exact HB.out)⟩
          · rw [if_neg c83] at H
            have c83b0 : (t365 == 0) = false := beq_eq_false_iff_ne.mpr c83
            have c83b1 : (t365 != 0) = true := bne_iff_ne.mpr c83
            replace H := Option.bind_eq_some_iff.mp H
            obtain ⟨⟨t379, t380, t383, t386⟩, A980, H⟩ := H
            replace H : (some (t379, t380, t383, t386, t366, (t365 == 0), 0)) = some (r1, r2, r3, r4, r5, r6, r7) := H
            have A98 := Aside0.mk A980
            clear A980
            simp only [Option.some.injEq, Prod.mk.injEq] at H
            obtain ⟨rfl, rfl, rfl, rfl, rfl, rfl, rfl⟩ := H
            have hnb99 := NB368_361.out
            have hnc99 := NB361_368.out
            have hnb100 := NB368_362.out
            have hnc100 := NB362_368.out
            have hnb101 := NB368_363.out
            have hnc101 := NB363_368.out
            have hcz102_0 : wc.cell? ⟨gb368, 0, none⟩ = some (.int .i64 t365) := (blk_cell BK368.out 0).trans rfl
            have hcz102_1 : wc.cell? ⟨gb368, 1, none⟩ = some (.int .i64 t366) := (blk_cell BK368.out 1).trans rfl
            have hcz102_2 : wc.cell? ⟨gb368, 2, none⟩ = some (.int .i64 t367) := (blk_cell BK368.out 2).trans rfl
            have hfz102_0 := blk_frozen BK368.out 0
            have hfz102_1 := blk_frozen BK368.out 1
            have hfz102_2 := blk_frozen BK368.out 2
            try go_wp2
            have n0_ : Aside0 ((wc.setCell ⟨gb368, 0, none⟩ (.int .i64 1)).heap[gb361]? = some (.cells #[.int .i64 a0_0, .slice A0_1 l0_1.length c0_1, .slice A0_2 l0_2.length c0_2, .bool a0_3] 24 (0, 0))) := ⟨by (with_reducible repeat (first | refine blk_drewN ?_ _ | refine blk_drew ?_ | refine blk_alloc ?_ _)); refine blk_far ?_ NB361_368.out _; (with_reducible repeat (first | refine blk_drewN ?_ _ | refine blk_drew ?_ | refine blk_alloc ?_ _)); exact BK361.out⟩
            have n1_ : Aside0 ((wc.setCell ⟨gb368, 0, none⟩ (.int .i64 1)).heap[gb362]? = some (.cells #[.int .i64 a1_0, .int .i64 a1_1] 29 (0, 0))) := ⟨by (with_reducible repeat (first | refine blk_drewN ?_ _ | refine blk_drew ?_ | refine blk_alloc ?_ _)); refine blk_far ?_ NB362_368.out _; (with_reducible repeat (first | refine blk_drewN ?_ _ | refine blk_drew ?_ | refine blk_alloc ?_ _)); exact BK362.out⟩
            have n2_ : Aside0 ((wc.setCell ⟨gb368, 0, none⟩ (.int .i64 1)).heap[gb363]? = some (.cells #[.int .i64 0, .slice none 0 0, .slice none 0 0, .bool false] 24 (0, 0))) := ⟨by (with_reducible repeat (first | refine blk_drewN ?_ _ | refine blk_drew ?_ | refine blk_alloc ?_ _)); refine blk_far ?_ NB363_368.out _; (with_reducible repeat (first | refine blk_drewN ?_ _ | refine blk_drew ?_ | refine blk_alloc ?_ _)); exact BK363.out⟩
            have n3_ : Aside0 ((wc.setCell ⟨gb368, 0, none⟩ (.int .i64 1)).heap[gb368]? = some (.cells #[.int .i64 1, .int .i64 t366, .int .i64 t367] 38 (0, 0))) := ⟨by (with_reducible repeat (first | refine blk_drewN ?_ _ | refine blk_drew ?_ | refine blk_alloc ?_ _)); refine blk_put (cs := #[.int .i64 t365, .int .i64 t366, .int .i64 t367]) ?_ 0 _ rfl; (with_reducible repeat (first | refine blk_drewN ?_ _ | refine blk_drew ?_ | refine blk_alloc ?_ _)); exact BK368.out⟩
            have n4_ : Aside0 (Below w.heap.size w (wc.setCell ⟨gb368, 0, none⟩ (.int .i64 1))) := ⟨by repeat (first | (with_reducible first | exact HB.out | apply below_alloc | apply pw_below_drewN | apply below_drew1 | refine below_set ?_ GE361.out | refine below_set ?_ GE362.out | refine below_set ?_ GE363.out | refine below_set ?_ GE368.out) | exact HB.out)⟩
            (try clear BK361)
            (try clear BK362)
            (try clear BK363)
            (try clear BK368)
            (try clear HB)
            generalize (wc.setCell ⟨gb368, 0, none⟩ (.int .i64 1)) = w103 at n0_ n1_ n2_ n3_ n4_ ⊢
            have BK361 := n0_
            have BK362 := n1_
            have BK363 := n2_
            have BK368 := n3_
            have HB := n4_
            clear n0_ n1_ n2_ n3_ n4_
            have n0_ := Aside0.mk (blk_drew BK361.out)
            have n1_ := Aside0.mk (blk_drew BK362.out)
            have n2_ := Aside0.mk (blk_drew BK363.out)
            have n3_ := Aside0.mk (blk_drew BK368.out)
            have n4_ := Aside0.mk (below_drew1 HB.out)
            clear BK361
            clear BK362
            clear BK363
            clear BK368
            clear HB
            have BK361 := n0_
            have BK362 := n1_
            have BK363 := n2_
            have BK368 := n3_
            have HB := n4_
            clear n0_ n1_ n2_ n3_ n4_
            refine start_ (n := 11) (S := fun w' => w'.cell? ⟨gb361, 0, none⟩ = some (.int .i64 a0_0) ∧ w'.cell? ⟨gb361, 1, none⟩ = some (.slice A0_1 l0_1.length c0_1) ∧ w'.cell? ⟨gb361, 2, none⟩ = some (.slice A0_2 l0_2.length c0_2) ∧ w'.cell? ⟨gb361, 3, none⟩ = some (.bool a0_3) ∧ w'.cell? ⟨gb362, 0, none⟩ = some (.int .i64 a1_0) ∧ w'.cell? ⟨gb362, 1, none⟩ = some (.int .i64 a1_1) ∧ w'.cell? ⟨gb368, 0, none⟩ = some (.int .i64 1) ∧ w'.cell? ⟨gb368, 1, none⟩ = some (.int .i64 t366) ∧ w'.cell? ⟨gb368, 2, none⟩ = some (.int .i64 t367)) (ds := []) #[false, false, false, false, false, false, false, false, false, false, false] (by kernel_rfl) rfl rfl ⟨(blk_cell BK361.out 0).trans rfl, (blk_cell BK361.out 1).trans rfl, (blk_cell BK361.out 2).trans rfl, (blk_cell BK361.out 3).trans rfl, (blk_cell BK362.out 0).trans rfl, (blk_cell BK362.out 1).trans rfl, (blk_cell BK368.out 0).trans rfl, (blk_cell BK368.out 1).trans rfl, (blk_cell BK368.out 2).trans rfl⟩ (fun hHeld => ?_); refine with_tabW winnowref19_Begin.tab11 winnowref19_Begin.bits11 (fun HT_ HW_ => ?_)
            generalize w103.drew = w104 at BK361 BK362 BK363 BK368 HB hHeld ⊢
            refine pure_ (i := 4) (N := some 58) (v := ?_) (a' := ?_) #[false, false, false, false, true, false, false, false, false, false, false] rfl rfl (any_of HT_.out (by kernel_rfl)) (fun _ _ _ h => h) (Or.inl ⟨by rfl, ?_⟩) ?_ ?_
            rotate_left
            · intro w'
              go_simp
              with_reducible rfl
            rotate_left
            · simp only [Act.put, List.setIfInBounds_toArray, List.set_cons_zero, List.set_cons_succ, i64_w, i32_w]
              rfl
            refine pure_ (i := 6) (N := some 60) (v := ?_) (a' := ?_) #[false, false, false, false, true, false, true, false, false, false, false] rfl rfl (any_of HT_.out (by kernel_rfl)) (fun _ _ _ h => h) (Or.inl ⟨by rfl, ?_⟩) ?_ ?_
            rotate_left
            · intro w'
              go_simp
              with_reducible rfl
            rotate_left
            · simp only [Act.put, List.setIfInBounds_toArray, List.set_cons_zero, List.set_cons_succ, i64_w, i32_w]
              rfl
            refine take_ (i := 0) (N := some 54) (v := ?_) (a' := ?_) #[true, false, false, false, true, false, true, false, false, false, false] rfl rfl (take_ofW HT_.out HW_.out (by kernel_rfl)) (fun _ _ _ h => h) (Or.inl ⟨by rfl, ?_⟩) hHeld ?_ ?_
            rotate_left
            · rintro w' ⟨s0, s1, s2, s3, s4, s5, s6, s7, s8⟩
              go_simp
              with_reducible rfl
            rotate_left
            · simp only [Act.put, List.setIfInBounds_toArray, List.set_cons_zero, List.set_cons_succ, i64_w, i32_w]
              rfl
            refine take_ (i := 1) (N := some 55) (v := ?_) (a' := ?_) #[true, true, false, false, true, false, true, false, false, false, false] rfl rfl (take_ofW HT_.out HW_.out (by kernel_rfl)) (fun _ _ _ h => h) (Or.inl ⟨by rfl, ?_⟩) hHeld ?_ ?_
            rotate_left
            · rintro w' ⟨s0, s1, s2, s3, s4, s5, s6, s7, s8⟩
              go_simp
              with_reducible rfl
            rotate_left
            · simp only [Act.put, List.setIfInBounds_toArray, List.set_cons_zero, List.set_cons_succ, i64_w, i32_w]
              rfl
            refine take_ (i := 2) (N := some 56) (v := ?_) (a' := ?_) #[true, true, true, false, true, false, true, false, false, false, false] rfl rfl (take_ofW HT_.out HW_.out (by kernel_rfl)) (fun _ _ _ h => h) (Or.inl ⟨by rfl, ?_⟩) hHeld ?_ ?_
            rotate_left
            · rintro w' ⟨s0, s1, s2, s3, s4, s5, s6, s7, s8⟩
              go_simp
              with_reducible rfl
            rotate_left
            · simp only [Act.put, List.setIfInBounds_toArray, List.set_cons_zero, List.set_cons_succ, i64_w, i32_w]
              rfl
            refine take_ (i := 5) (N := some 59) (v := ?_) (a' := ?_) #[true, true, true, false, true, true, true, false, false, false, false] rfl rfl (take_ofW HT_.out HW_.out (by kernel_rfl)) (fun _ _ _ h => h) (Or.inl ⟨by rfl, ?_⟩) hHeld ?_ ?_
            rotate_left
            · rintro w' ⟨s0, s1, s2, s3, s4, s5, s6, s7, s8⟩
              go_simp
              with_reducible rfl
            rotate_left
            · simp only [Act.put, List.setIfInBounds_toArray, List.set_cons_zero, List.set_cons_succ, i64_w, i32_w]
              rfl
            refine one_ (i := 3) (N := some 57) #[true, true, true, true, true, true, true, false, false, false, false] rfl rfl (one_of HT_.out (by kernel_rfl)) (by decide) (fun K hK => ?_)
            refine goes_ Tryd.func49 (by kernel_rfl) rfl #[.agg #[.int .i64 a0_0, .slice A0_1 l0_1.length c0_1, .slice A0_2 l0_2.length c0_2, .bool a0_3], .agg #[.int .i64 a1_0, .int .i64 a1_1], .agg #[.int .i64 1, .int .i64 t366, .int .i64 t367]] (by rfl) rfl rfl (by (try simp only [List.map_toArray, List.map_cons, List.map_nil]); first | done | rfl | (simp only [List.length_drop, List.length_take]; rfl)) ?_
            with_reducible refine (winnowref19_with.calls a0_0 _ _ l0_1 _ _ l0_2 a0_3 a1_0 a1_1 1 t366 t367 t379 t380 t383 t386 _ ?side1 ?side2 ?side3 ?side4 A98.out).mono ?_
            (case side1 => repeat (first | exact (Kd.C_below HR0_1.out HB.out) | (with_reducible refine Kd.C_alloc ?_ _) | (with_reducible refine Kd.C_drewN ?_ _) | (with_reducible refine Kd.C_drew ?_)))
            (case side2 => exact HC0_1.out)
            (case side3 => repeat (first | exact (Kd.C_below HR0_2.out HB.out) | (with_reducible refine Kd.C_alloc ?_ _) | (with_reducible refine Kd.C_drewN ?_ _) | (with_reducible refine Kd.C_drew ?_)))
            (case side4 => exact HC0_2.out)
            rintro e w105 ⟨v381, v384, rfl, ho0, ho1, hb⟩
            refine ⟨_, rfl, ?_⟩
            have n0_ := Aside0.mk (Kd.R_lower (Kd.R_newB ho0 (g := gb368) (o := .cells #[.int .i64 1, .int .i64 t366, .int .i64 t367] 38 (0, 0)) (by (with_reducible repeat (first | refine blk_drewN ?_ _ | refine blk_drew ?_ | refine blk_alloc ?_ _)); exact BK368.out)) (below_size (by repeat (first | (with_reducible first | exact HB.out | apply below_alloc | apply pw_below_drewN | apply below_drew1 | refine below_set ?_ GE361.out | refine below_set ?_ GE362.out | refine below_set ?_ GE363.out | refine below_set ?_ GE368.out) | exact HB.out))))
            have n1_ := Aside0.mk (Kd.R_lower (Kd.R_newB ho1 (g := gb368) (o := .cells #[.int .i64 1, .int .i64 t366, .int .i64 t367] 38 (0, 0)) (by (with_reducible repeat (first | refine blk_drewN ?_ _ | refine blk_drew ?_ | refine blk_alloc ?_ _)); exact BK368.out)) (below_size (by repeat (first | (with_reducible first | exact HB.out | apply below_alloc | apply pw_below_drewN | apply below_drew1 | refine below_set ?_ GE361.out | refine below_set ?_ GE362.out | refine below_set ?_ GE363.out | refine below_set ?_ GE368.out) | exact HB.out))))
            have n2_ := Aside0.mk (blk_below (g := gb361) (o := .cells #[.int .i64 a0_0, .slice A0_1 l0_1.length c0_1, .slice A0_2 l0_2.length c0_2, .bool a0_3] 24 (0, 0)) (by (with_reducible repeat (first | refine blk_drewN ?_ _ | refine blk_drew ?_ | refine blk_alloc ?_ _)); exact BK361.out) hb)
            have n3_ := Aside0.mk (blk_below (g := gb362) (o := .cells #[.int .i64 a1_0, .int .i64 a1_1] 29 (0, 0)) (by (with_reducible repeat (first | refine blk_drewN ?_ _ | refine blk_drew ?_ | refine blk_alloc ?_ _)); exact BK362.out) hb)
            have n4_ := Aside0.mk (blk_below (g := gb363) (o := .cells #[.int .i64 0, .slice none 0 0, .slice none 0 0, .bool false] 24 (0, 0)) (by (with_reducible repeat (first | refine blk_drewN ?_ _ | refine blk_drew ?_ | refine blk_alloc ?_ _)); exact BK363.out) hb)
            have n5_ := Aside0.mk (blk_below (g := gb368) (o := .cells #[.int .i64 1, .int .i64 t366, .int .i64 t367] 38 (0, 0)) (by (with_reducible repeat (first | refine blk_drewN ?_ _ | refine blk_drew ?_ | refine blk_alloc ?_ _)); exact BK368.out) hb)
            have n6_ := Aside0.mk (below_step (by repeat (first | (with_reducible first | exact HB.out | apply below_alloc | apply pw_below_drewN | apply below_drew1 | refine below_set ?_ GE361.out | refine below_set ?_ GE362.out | refine below_set ?_ GE363.out | refine below_set ?_ GE368.out) | exact HB.out)) hb)
            clear BK361
            clear BK362
            clear BK363
            clear BK368
            clear HB
            have HO382 := n0_
            have HO385 := n1_
            have BK361 := n2_
            have BK362 := n3_
            have BK363 := n4_
            have BK368 := n5_
            have HB := n6_
            clear n0_ n1_ n2_ n3_ n4_ n5_ n6_
            (try clear hb)
            (try clear hb2)
            (try clear hk)
            (try clear hi)
            (try clear ho0)
            (try clear ho1)
            obtain ⟨Ao107, co107, eo107⟩ := Kd.R_slice HO382.out
            (first | subst eo107 | (injection eo107 with f1_ f2_ f3_; have f4_ := f1_.symm; have f5_ := f3_.symm; clear f1_ f2_ f3_; subst f4_; subst f5_))
            obtain ⟨Ao109, co109, eo109⟩ := Kd.R_slice HO385.out
            (first | subst eo109 | (injection eo109 with f1_ f2_ f3_; have f4_ := f1_.symm; have f5_ := f3_.symm; clear f1_ f2_ f3_; subst f4_; subst f5_))
            refine hK.out _ _ ⟨(blk_cell BK361.out 0).trans rfl, (blk_cell BK361.out 1).trans rfl, (blk_cell BK361.out 2).trans rfl, (blk_cell BK361.out 3).trans rfl, (blk_cell BK362.out 0).trans rfl, (blk_cell BK362.out 1).trans rfl, (blk_cell BK368.out 0).trans rfl, (blk_cell BK368.out 1).trans rfl, (blk_cell BK368.out 2).trans rfl⟩ (fun hHeld => ?_)
            clear hK K
            refine norm_ (a' := ?_) ?_ ?_
            rotate_left
            · show Act.put _ (some 57) _ = _
              simp only [Act.put, List.setIfInBounds_toArray, List.set_cons_zero, List.set_cons_succ, i64_w, i32_w]
              rfl
            refine one_ (i := 7) (N := none) #[true, true, true, true, true, true, true, true, false, false, false] rfl rfl (one_of HT_.out (by kernel_rfl)) (by decide) (fun K hK => ?_)
            have hs106 : w105.cell? ⟨gb363, 0, none⟩ = some (.int .i64 0) := (blk_cell BK363.out 0).trans rfl
            have hfs106 := blk_frozen BK363.out 0
            have hns106_0 := NB361_363.out
            have hns106_1 := NB362_363.out
            have hns106_3 := NB368_363.out
            have hms106_0 := NB363_361.out
            have hms106_1 := NB363_362.out
            have hms106_3 := NB363_368.out
            have hs108 : w105.cell? ⟨gb363, 1, none⟩ = some (.slice none 0 0) := (blk_cell BK363.out 1).trans rfl
            have hfs108 := blk_frozen BK363.out 1
            have hns108_0 := NB361_363.out
            have hns108_1 := NB362_363.out
            have hns108_3 := NB368_363.out
            have hms108_0 := NB363_361.out
            have hms108_1 := NB363_362.out
            have hms108_3 := NB363_368.out
            have hs110 : w105.cell? ⟨gb363, 2, none⟩ = some (.slice none 0 0) := (blk_cell BK363.out 2).trans rfl
            have hfs110 := blk_frozen BK363.out 2
            have hns110_0 := NB361_363.out
            have hns110_1 := NB362_363.out
            have hns110_3 := NB368_363.out
            have hms110_0 := NB363_361.out
            have hms110_1 := NB363_362.out
            have hms110_3 := NB363_368.out
            have hs111 : w105.cell? ⟨gb363, 3, none⟩ = some (.bool false) := (blk_cell BK363.out 3).trans rfl
            have hfs111 := blk_frozen BK363.out 3
            have hns111_0 := NB361_363.out
            have hns111_1 := NB362_363.out
            have hns111_3 := NB368_363.out
            have hms111_0 := NB363_361.out
            have hms111_1 := NB363_362.out
            have hms111_3 := NB363_368.out
            refine skip_ (w1 := ?_) (by rfl) rfl ?_ ?_
            rotate_left
            · go_simp
              rfl
            refine hK.out _ _ ⟨((cell_far (p := ⟨gb363, _, none⟩) NB361_363.out _).trans (((cell_far (p := ⟨gb363, _, none⟩) NB361_363.out _).trans (((cell_far (p := ⟨gb363, _, none⟩) NB361_363.out _).trans (((cell_far (p := ⟨gb363, _, none⟩) NB361_363.out _).trans (hHeld.1)))))))), ((cell_far (p := ⟨gb363, _, none⟩) NB361_363.out _).trans (((cell_far (p := ⟨gb363, _, none⟩) NB361_363.out _).trans (((cell_far (p := ⟨gb363, _, none⟩) NB361_363.out _).trans (((cell_far (p := ⟨gb363, _, none⟩) NB361_363.out _).trans (hHeld.2.1)))))))), ((cell_far (p := ⟨gb363, _, none⟩) NB361_363.out _).trans (((cell_far (p := ⟨gb363, _, none⟩) NB361_363.out _).trans (((cell_far (p := ⟨gb363, _, none⟩) NB361_363.out _).trans (((cell_far (p := ⟨gb363, _, none⟩) NB361_363.out _).trans (hHeld.2.2.1)))))))), ((cell_far (p := ⟨gb363, _, none⟩) NB361_363.out _).trans (((cell_far (p := ⟨gb363, _, none⟩) NB361_363.out _).trans (((cell_far (p := ⟨gb363, _, none⟩) NB361_363.out _).trans (((cell_far (p := ⟨gb363, _, none⟩) NB361_363.out _).trans (hHeld.2.2.2.1)))))))), ((cell_far (p := ⟨gb363, _, none⟩) NB362_363.out _).trans (((cell_far (p := ⟨gb363, _, none⟩) NB362_363.out _).trans (((cell_far (p := ⟨gb363, _, none⟩) NB362_363.out _).trans (((cell_far (p := ⟨gb363, _, none⟩) NB362_363.out _).trans (hHeld.2.2.2.2.1)))))))), ((cell_far (p := ⟨gb363, _, none⟩) NB362_363.out _).trans (((cell_far (p := ⟨gb363, _, none⟩) NB362_363.out _).trans (((cell_far (p := ⟨gb363, _, none⟩) NB362_363.out _).trans (((cell_far (p := ⟨gb363, _, none⟩) NB362_363.out _).trans (hHeld.2.2.2.2.2.1)))))))), ((cell_far (p := ⟨gb363, _, none⟩) NB368_363.out _).trans (((cell_far (p := ⟨gb363, _, none⟩) NB368_363.out _).trans (((cell_far (p := ⟨gb363, _, none⟩) NB368_363.out _).trans (((cell_far (p := ⟨gb363, _, none⟩) NB368_363.out _).trans (hHeld.2.2.2.2.2.2.1)))))))), ((cell_far (p := ⟨gb363, _, none⟩) NB368_363.out _).trans (((cell_far (p := ⟨gb363, _, none⟩) NB368_363.out _).trans (((cell_far (p := ⟨gb363, _, none⟩) NB368_363.out _).trans (((cell_far (p := ⟨gb363, _, none⟩) NB368_363.out _).trans (hHeld.2.2.2.2.2.2.2.1)))))))), ((cell_far (p := ⟨gb363, _, none⟩) NB368_363.out _).trans (((cell_far (p := ⟨gb363, _, none⟩) NB368_363.out _).trans (((cell_far (p := ⟨gb363, _, none⟩) NB368_363.out _).trans (((cell_far (p := ⟨gb363, _, none⟩) NB368_363.out _).trans (hHeld.2.2.2.2.2.2.2.2))))))))⟩ (fun hHeld => ?_)
            clear hK K
            refine pure_ (i := 8) (N := some 5) (v := ?_) (a' := ?_) #[true, true, true, true, true, true, true, true, true, false, false] rfl rfl (any_of HT_.out (by kernel_rfl)) (fun _ _ _ h => h) (Or.inl ⟨by rfl, ?_⟩) ?_ ?_
            rotate_left
            · intro w'
              go_simp
              with_reducible rfl
            rotate_left
            · simp only [Act.put, List.setIfInBounds_toArray, List.set_cons_zero, List.set_cons_succ, i64_w, i32_w]
              rfl
            refine pure_ (i := 9) (N := some 6) (v := ?_) (a' := ?_) #[true, true, true, true, true, true, true, true, true, true, false] rfl rfl (any_of HT_.out (by kernel_rfl)) (fun _ _ _ h => h) (Or.inl ⟨by rfl, ?_⟩) ?_ ?_
            rotate_left
            · intro w'
              go_simp
              with_reducible rfl
            rotate_left
            · simp only [Act.put, List.setIfInBounds_toArray, List.set_cons_zero, List.set_cons_succ, i64_w, i32_w]
              rfl
            refine pure_ (i := 10) (N := some 7) (v := ?_) (a' := ?_) #[true, true, true, true, true, true, true, true, true, true, true] rfl rfl (any_of HT_.out (by kernel_rfl)) (fun _ _ _ h => h) (Or.inl ⟨by rfl, ?_⟩) ?_ ?_
            rotate_left
            · intro w'
              go_simp
              with_reducible rfl
            rotate_left
            · simp only [Act.put, List.setIfInBounds_toArray, List.set_cons_zero, List.set_cons_succ, i64_w, i32_w]
              rfl
            refine done_ (done_of HT_.out (by kernel_rfl)) ?_
            try go_wp2
            refine bodyPost_ret (results_list (rs := [.cell 4 24, .tmp 5, .tmp 6, .tmp 7]) rfl (by simp) (.cell gb363 24 #[.int .i64 t379, .slice Ao107 t380.length co107, .slice Ao109 t383.length co109, .bool t386] (0, 0) _ rfl (by (with_reducible repeat (first | refine blk_drewN ?_ _ | refine blk_drew ?_ | refine blk_alloc ?_ _)); refine blk_put (cs := #[.int .i64 t379, .slice Ao107 t380.length co107, .slice Ao109 t383.length co109, .bool false]) ?_ 3 _ rfl; (with_reducible repeat (first | refine blk_drewN ?_ _ | refine blk_drew ?_ | refine blk_alloc ?_ _)); refine blk_put (cs := #[.int .i64 t379, .slice Ao107 t380.length co107, .slice none 0 0, .bool false]) ?_ 2 _ rfl; (with_reducible repeat (first | refine blk_drewN ?_ _ | refine blk_drew ?_ | refine blk_alloc ?_ _)); refine blk_put (cs := #[.int .i64 t379, .slice none 0 0, .slice none 0 0, .bool false]) ?_ 1 _ rfl; (with_reducible repeat (first | refine blk_drewN ?_ _ | refine blk_drew ?_ | refine blk_alloc ?_ _)); refine blk_put (cs := #[.int .i64 0, .slice none 0 0, .slice none 0 0, .bool false]) ?_ 0 _ rfl; (with_reducible repeat (first | refine blk_drewN ?_ _ | refine blk_drew ?_ | refine blk_alloc ?_ _)); exact BK363.out) Tryd.underlying24 rfl (by kernel_rfl) (.tmp (.tmp (.tmp .nil))))) rfl ?_
            exact ⟨_, _, by first | rfl | (simp [errW_none, errW_some] <;> rfl) | (simp [*, errW_none, errW_some] <;> rfl) | (simp [errW_none, errW_some]; exact ⟨rfl, rfl⟩) | (simp [*, errW_none, errW_some]; exact ⟨rfl, rfl⟩), by (with_reducible repeat (first | apply Kd.R_alloc | apply Kd.R_drewN | apply Kd.R_drew)); exact Kd.R_mono (Kd.R_far (p := ⟨gb363, 3, none⟩) (Kd.R_far (p := ⟨gb363, 2, none⟩) (Kd.R_far (p := ⟨gb363, 1, none⟩) (Kd.R_far (p := ⟨gb363, 0, none⟩) (Kd.R_types HO382.out BK363.out (by decide)) (fun _ hk => hk.2) (.int .i64 t379)) (fun _ hk => hk.2) (.slice Ao107 t380.length co107)) (fun _ hk => hk.2) (.slice Ao109 t383.length co109)) (fun _ hk => hk.2) (.bool t386)) (fun _ hk => hk.1.1), by (with_reducible repeat (first | apply Kd.R_alloc | apply Kd.R_drewN | apply Kd.R_drew)); exact Kd.R_mono (Kd.R_far (p := ⟨gb363, 3, none⟩) (Kd.R_far (p := ⟨gb363, 2, none⟩) (Kd.R_far (p := ⟨gb363, 1, none⟩) (Kd.R_far (p := ⟨gb363, 0, none⟩) (Kd.R_types HO385.out BK363.out (by decide)) (fun _ hk => hk.2) (.int .i64 t379)) (fun _ hk => hk.2) (.slice Ao107 t380.length co107)) (fun _ hk => hk.2) (.slice Ao109 t383.length co109)) (fun _ hk => hk.2) (.bool t386)) (fun _ hk => hk.1.1), by repeat (first | (with_reducible first | exact HB.out | apply below_alloc | apply pw_below_drewN | apply below_drew1 | refine below_set ?_ GE361.out | refine below_set ?_ GE362.out | refine below_set ?_ GE363.out | refine below_set ?_ GE368.out) | exact HB.out)⟩
  · rw [if_neg c4] at H
    have c4b0 : (t364 == 0) = false := beq_eq_false_iff_ne.mpr c4
    have c4b1 : (t364 != 0) = true := bne_iff_ne.mpr c4
    simp only [Option.some.injEq, Prod.mk.injEq] at H
    obtain ⟨rfl, rfl, rfl, rfl, rfl, rfl, rfl⟩ := H
    go_enter Tryd.func29, Tryd.ntmps29
    go_wp2_with (first | ((with_reducible refine gate_dst (N := 2) rfl ?_); refine box_event ?hg (N := 2) ?hd (cs := #[.int .i64 a0_0, .slice A0_1 l0_1.length c0_1, .slice A0_2 l0_2.length c0_2, .bool a0_3]) (t := 24) ?hr ?_; (case hd => rfl); (case hg => rfl); (case hr => first | (go_simp; done) | (go_simp; rfl)); intro gb361 hg w112 hbox hb; have n0_ := Aside0.mk (below_step (by repeat (first | (with_reducible first | exact HB.out | apply below_alloc | apply pw_below_drewN | apply below_drew1) | exact HB.out)) hb); have n1_ := Aside0.mk (hbox); have n2_ := Aside0.mk ((by rw [hg]; exact (below_size (by repeat (first | (with_reducible first | exact HB.out | apply below_alloc | apply pw_below_drewN | apply below_drew1) | exact HB.out))) : w.heap.size ≤ gb361)); have n3_ := Aside0.mk ((by rw [hg]; exact (below_size (by repeat (first | (with_reducible first | exact HB.out | apply below_alloc | apply pw_below_drewN | apply below_drew1) | exact HB.out))) : w.heap.size ≤ gb361)); clear HB; have HB := n0_; have BK361 := n1_; have GW361 := n2_; have GE361 := n3_; clear n0_ n1_ n2_ n3_; clear hb hbox hg) | ((with_reducible refine gate_dst (N := 3) rfl ?_); refine box_event ?hg (N := 3) ?hd (cs := #[.int .i64 a1_0, .int .i64 a1_1]) (t := 29) ?hr ?_; (case hd => rfl); (case hg => rfl); (case hr => first | (go_simp; done) | (go_simp; rfl)); intro gb362 hg w113 hbox hb; have n0_ := Aside0.mk (blk_below (g := gb361) (o := .cells #[.int .i64 a0_0, .slice A0_1 l0_1.length c0_1, .slice A0_2 l0_2.length c0_2, .bool a0_3] 24 (0, 0)) (by (with_reducible repeat (first | refine blk_drewN ?_ _ | refine blk_drew ?_ | refine blk_alloc ?_ _)); exact BK361.out) hb); have n1_ := Aside0.mk (below_step (by repeat (first | (with_reducible first | exact HB.out | apply below_alloc | apply pw_below_drewN | apply below_drew1 | refine below_set ?_ GE361.out) | exact HB.out)) hb); have n2_ := Aside0.mk (hbox); have n3_ := Aside0.mk ((by rw [hg]; exact (below_size (by repeat (first | (with_reducible first | exact HB.out | apply below_alloc | apply pw_below_drewN | apply below_drew1 | refine below_set ?_ GE361.out) | exact HB.out))) : w.heap.size ≤ gb362)); have n4_ := Aside0.mk ((by rw [hg]; exact (below_size (by repeat (first | (with_reducible first | exact HB.out | apply below_alloc | apply pw_below_drewN | apply below_drew1 | refine below_set ?_ GE361.out) | exact HB.out))) : w.heap.size ≤ gb362)); have n5_ := Aside0.mk ((by rw [hg]; exact Nat.ne_of_lt (blk_lt (g := gb361) (o := .cells #[.int .i64 a0_0, .slice A0_1 l0_1.length c0_1, .slice A0_2 l0_2.length c0_2, .bool a0_3] 24 (0, 0)) (by (with_reducible repeat (first | refine blk_drewN ?_ _ | refine blk_drew ?_ | refine blk_alloc ?_ _)); exact BK361.out)) : gb361 ≠ gb362)); have n6_ := Aside0.mk ((by rw [hg]; exact Nat.ne_of_gt (blk_lt (g := gb361) (o := .cells #[.int .i64 a0_0, .slice A0_1 l0_1.length c0_1, .slice A0_2 l0_2.length c0_2, .bool a0_3] 24 (0, 0)) (by (with_reducible repeat (first | refine blk_drewN ?_ _ | refine blk_drew ?_ | refine blk_alloc ?_ _)); exact BK361.out)) : gb362 ≠ gb361)); clear BK361; clear HB; have BK361 := n0_; have HB := n1_; have BK362 := n2_; have GW362 := n3_; have GE362 := n4_; have NB361_362 := n5_; have NB362_361 := n6_; clear n0_ n1_ n2_ n3_ n4_ n5_ n6_; clear hb hbox hg) | ((with_reducible refine gate_dst (N := 4) rfl ?_); refine box_event ?hg (N := 4) ?hd (cs := #[.int .i64 0, .slice none 0 0, .slice none 0 0, .bool false]) (t := 24) ?hr ?_; (case hd => rfl); (case hg => rfl); (case hr => first | (go_simp; done) | (go_simp; rfl)); intro gb363 hg w114 hbox hb; have n0_ := Aside0.mk (blk_below (g := gb361) (o := .cells #[.int .i64 a0_0, .slice A0_1 l0_1.length c0_1, .slice A0_2 l0_2.length c0_2, .bool a0_3] 24 (0, 0)) (by (with_reducible repeat (first | refine blk_drewN ?_ _ | refine blk_drew ?_ | refine blk_alloc ?_ _)); exact BK361.out) hb); have n1_ := Aside0.mk (blk_below (g := gb362) (o := .cells #[.int .i64 a1_0, .int .i64 a1_1] 29 (0, 0)) (by (with_reducible repeat (first | refine blk_drewN ?_ _ | refine blk_drew ?_ | refine blk_alloc ?_ _)); exact BK362.out) hb); have n2_ := Aside0.mk (below_step (by repeat (first | (with_reducible first | exact HB.out | apply below_alloc | apply pw_below_drewN | apply below_drew1 | refine below_set ?_ GE361.out | refine below_set ?_ GE362.out) | exact HB.out)) hb); have n3_ := Aside0.mk (hbox); have n4_ := Aside0.mk ((by rw [hg]; exact (below_size (by repeat (first | (with_reducible first | exact HB.out | apply below_alloc | apply pw_below_drewN | apply below_drew1 | refine below_set ?_ GE361.out | refine below_set ?_ GE362.out) | exact HB.out))) : w.heap.size ≤ gb363)); have n5_ := Aside0.mk ((by rw [hg]; exact (below_size (by repeat (first | (with_reducible first | exact HB.out | apply below_alloc | apply pw_below_drewN | apply below_drew1 | refine below_set ?_ GE361.out | refine below_set ?_ GE362.out) | exact HB.out))) : w.heap.size ≤ gb363)); have n6_ := Aside0.mk ((by rw [hg]; exact Nat.ne_of_lt (blk_lt (g := gb361) (o := .cells #[.int .i64 a0_0, .slice A0_1 l0_1.length c0_1, .slice A0_2 l0_2.length c0_2, .bool a0_3] 24 (0, 0)) (by (with_reducible repeat (first | refine blk_drewN ?_ _ | refine blk_drew ?_ | refine blk_alloc ?_ _)); exact BK361.out)) : gb361 ≠ gb363)); have n7_ := Aside0.mk ((by rw [hg]; exact Nat.ne_of_gt (blk_lt (g := gb361) (o := .cells #[.int .i64 a0_0, .slice A0_1 l0_1.length c0_1, .slice A0_2 l0_2.length c0_2, .bool a0_3] 24 (0, 0)) (by (with_reducible repeat (first | refine blk_drewN ?_ _ | refine blk_drew ?_ | refine blk_alloc ?_ _)); exact BK361.out)) : gb363 ≠ gb361)); have n8_ := Aside0.mk ((by rw [hg]; exact Nat.ne_of_lt (blk_lt (g := gb362) (o := .cells #[.int .i64 a1_0, .int .i64 a1_1] 29 (0, 0)) (by (with_reducible repeat (first | refine blk_drewN ?_ _ | refine blk_drew ?_ | refine blk_alloc ?_ _)); exact BK362.out)) : gb362 ≠ gb363)); have n9_ := Aside0.mk ((by rw [hg]; exact Nat.ne_of_gt (blk_lt (g := gb362) (o := .cells #[.int .i64 a1_0, .int .i64 a1_1] 29 (0, 0)) (by (with_reducible repeat (first | refine blk_drewN ?_ _ | refine blk_drew ?_ | refine blk_alloc ?_ _)); exact BK362.out)) : gb363 ≠ gb362)); clear BK361; clear BK362; clear HB; have BK361 := n0_; have BK362 := n1_; have HB := n2_; have BK363 := n3_; have GW363 := n4_; have GE363 := n5_; have NB361_363 := n6_; have NB363_361 := n7_; have NB362_363 := n8_; have NB363_362 := n9_; clear n0_ n1_ n2_ n3_ n4_ n5_ n6_ n7_ n8_ n9_; clear hb hbox hg; have hnb115 := NB361_362.out; have hnc115 := NB362_361.out; have hnb116 := NB361_363.out; have hnc116 := NB363_361.out; have hcz117_0 : w114.cell? ⟨gb361, 0, none⟩ = some (.int .i64 a0_0) := (blk_cell BK361.out 0).trans rfl; have hcz117_1 : w114.cell? ⟨gb361, 1, none⟩ = some (.slice A0_1 l0_1.length c0_1) := (blk_cell BK361.out 1).trans rfl; have hcz117_2 : w114.cell? ⟨gb361, 2, none⟩ = some (.slice A0_2 l0_2.length c0_2) := (blk_cell BK361.out 2).trans rfl; have hcz117_3 : w114.cell? ⟨gb361, 3, none⟩ = some (.bool a0_3) := (blk_cell BK361.out 3).trans rfl; have hfz117_0 := blk_frozen BK361.out 0; have hfz117_1 := blk_frozen BK361.out 1; have hfz117_2 := blk_frozen BK361.out 2; have hfz117_3 := blk_frozen BK361.out 3; have hnb118 := NB362_363.out; have hnc118 := NB363_362.out; have hcz119_0 : w114.cell? ⟨gb362, 0, none⟩ = some (.int .i64 a1_0) := (blk_cell BK362.out 0).trans rfl; have hcz119_1 : w114.cell? ⟨gb362, 1, none⟩ = some (.int .i64 a1_1) := (blk_cell BK362.out 1).trans rfl; have hfz119_0 := blk_frozen BK362.out 0; have hfz119_1 := blk_frozen BK362.out 1) | ((with_reducible refine gate_callee (f := 58) rfl ?_); refine goesL_ (some 13) rfl rfl Tryd.func58 (by kernel_rfl) rfl #[.agg #[.int .i64 a0_0, .slice A0_1 l0_1.length c0_1, .slice A0_2 l0_2.length c0_2, .bool a0_3], .agg #[.int .i64 a1_0, .int .i64 a1_1]] rfl (by (try simp only [List.map_toArray, List.map_cons, List.map_nil]); first | done | rfl | (simp only [List.length_drop, List.length_take]; rfl)) ?_; (with_reducible refine (winnowref19_refusal.calls a0_0 _ _ l0_1 _ _ l0_2 a0_3 a1_0 a1_1 t364 _ ?side1 ?side2 ?side3 ?side4 A3.out).mono ?_); (case side1 => repeat (first | exact (Kd.C_below HR0_1.out HB.out) | (with_reducible refine Kd.C_alloc ?_ _) | (with_reducible refine Kd.C_drewN ?_ _) | (with_reducible refine Kd.C_drew ?_))); (case side2 => exact HC0_1.out); (case side3 => repeat (first | exact (Kd.C_below HR0_2.out HB.out) | (with_reducible refine Kd.C_alloc ?_ _) | (with_reducible refine Kd.C_drewN ?_ _) | (with_reducible refine Kd.C_drew ?_))); (case side4 => exact HC0_2.out); rintro e w120 ⟨rfl, hb⟩; refine ⟨_, rfl, ?_⟩; have n0_ := Aside0.mk (blk_below (g := gb361) (o := .cells #[.int .i64 a0_0, .slice A0_1 l0_1.length c0_1, .slice A0_2 l0_2.length c0_2, .bool a0_3] 24 (0, 0)) (by (with_reducible repeat (first | refine blk_drewN ?_ _ | refine blk_drew ?_ | refine blk_alloc ?_ _)); exact BK361.out) hb); have n1_ := Aside0.mk (blk_below (g := gb362) (o := .cells #[.int .i64 a1_0, .int .i64 a1_1] 29 (0, 0)) (by (with_reducible repeat (first | refine blk_drewN ?_ _ | refine blk_drew ?_ | refine blk_alloc ?_ _)); exact BK362.out) hb); have n2_ := Aside0.mk (blk_below (g := gb363) (o := .cells #[.int .i64 0, .slice none 0 0, .slice none 0 0, .bool false] 24 (0, 0)) (by (with_reducible repeat (first | refine blk_drewN ?_ _ | refine blk_drew ?_ | refine blk_alloc ?_ _)); exact BK363.out) hb); have n3_ := Aside0.mk (below_step (by repeat (first | (with_reducible first | exact HB.out | apply below_alloc | apply pw_below_drewN | apply below_drew1 | refine below_set ?_ GE361.out | refine below_set ?_ GE362.out | refine below_set ?_ GE363.out) | exact HB.out)) hb); clear BK361; clear BK362; clear BK363; clear HB; have BK361 := n0_; have BK362 := n1_; have BK363 := n2_; have HB := n3_; clear n0_ n1_ n2_ n3_; (try clear hb); (try clear hb2); (try clear hk); (try clear hi); have hcz121_0 : w120.cell? ⟨gb363, 0, none⟩ = some (.int .i64 0) := (blk_cell BK363.out 0).trans rfl; have hcz121_1 : w120.cell? ⟨gb363, 1, none⟩ = some (.slice none 0 0) := (blk_cell BK363.out 1).trans rfl; have hcz121_2 : w120.cell? ⟨gb363, 2, none⟩ = some (.slice none 0 0) := (blk_cell BK363.out 2).trans rfl; have hcz121_3 : w120.cell? ⟨gb363, 3, none⟩ = some (.bool false) := (blk_cell BK363.out 3).trans rfl; have hfz121_0 := blk_frozen BK363.out 0; have hfz121_1 := blk_frozen BK363.out 1; have hfz121_2 := blk_frozen BK363.out 2; have hfz121_3 := blk_frozen BK363.out 3))
    refine bodyPost_ret (results_list (rs := [.cell 4 24, .tmp 5, .tmp 6, .tmp 7]) rfl (by simp) (.cell gb363 24 #[.int .i64 0, .slice none 0 0, .slice none 0 0, .bool false] (0, 0) _ rfl (by (with_reducible repeat (first | refine blk_drewN ?_ _ | refine blk_drew ?_ | refine blk_alloc ?_ _)); refine blk_put (cs := #[.int .i64 0, .slice none 0 0, .slice none 0 0, .bool false]) ?_ 3 _ rfl; (with_reducible repeat (first | refine blk_drewN ?_ _ | refine blk_drew ?_ | refine blk_alloc ?_ _)); refine blk_put (cs := #[.int .i64 0, .slice none 0 0, .slice none 0 0, .bool false]) ?_ 2 _ rfl; (with_reducible repeat (first | refine blk_drewN ?_ _ | refine blk_drew ?_ | refine blk_alloc ?_ _)); refine blk_put (cs := #[.int .i64 0, .slice none 0 0, .slice none 0 0, .bool false]) ?_ 1 _ rfl; (with_reducible repeat (first | refine blk_drewN ?_ _ | refine blk_drew ?_ | refine blk_alloc ?_ _)); refine blk_put (cs := #[.int .i64 0, .slice none 0 0, .slice none 0 0, .bool false]) ?_ 0 _ rfl; (with_reducible repeat (first | refine blk_drewN ?_ _ | refine blk_drew ?_ | refine blk_alloc ?_ _)); exact BK363.out) Tryd.underlying24 rfl (by kernel_rfl) (.tmp (.tmp (.tmp .nil))))) rfl ?_
    exact ⟨_, _, by first | rfl | (simp [errW_none, errW_some] <;> rfl) | (simp [*, errW_none, errW_some] <;> rfl) | (simp [errW_none, errW_some]; exact ⟨rfl, rfl⟩) | (simp [*, errW_none, errW_some]; exact ⟨rfl, rfl⟩), by first | exact Kd.R_nil _ _ _ _ _ | exact Kd.N_nil _ _ _ _ _ | exact Kd.V_nil _ _ _ _ _ | exact Kd.Q_nil _ _ _ _ _ | exact Kd.S_nil _ _ _ _ _, by first | exact Kd.R_nil _ _ _ _ _ | exact Kd.N_nil _ _ _ _ _ | exact Kd.V_nil _ _ _ _ _ | exact Kd.Q_nil _ _ _ _ _ | exact Kd.S_nil _ _ _ _ _, by repeat (first | (with_reducible first | exact HB.out | apply below_alloc | apply pw_below_drewN | apply below_drew1 | refine below_set ?_ GE361.out | refine below_set ?_ GE362.out | refine below_set ?_ GE363.out) | exact HB.out)⟩

end Go.Proofs.YtponmfnegdlppaaDoor.P

end
section
/- The document's answers are the program's, in plain lists: Begin. -/
namespace Go.Proofs.YtponmfnegdlppaaDoor.P
open Go.RowKit Go.Proofs.YtponmfnegdlppaaDoorW.PrintWords Go.Proofs.YtponmfnegdlppaaDoorW.PrintLast Go.Proofs.YtponmfnegdlppaaDoorW.PrintMore
set_option linter.unusedVariables false
set_option linter.unusedSimpArgs false

theorem refBegin (K : Nat) (t : Int) (l0 l1 : List S38) (fl : Bool) (k b : Int) (hK : 70000 < K) : winnowref19_Begin.f K t l0 l1 fl k b = some (beginP t l0 l1 fl k b) := by
  unfold winnowref19_Begin.f beginP
  rw [refRefusal t l0 l1 fl k b, Option.bind_some]
  by_cases h : knownP t l0 l1 fl [⟨k, b⟩] = 0
  · rw [if_pos h, if_pos h, refAt t l0 l1 fl k b (isT_known h), Option.bind_some]
    obtain ⟨l0b, l1b⟩ := len_ok (known_one h).1
    obtain ⟨q1, q2, q3, q4, q5, q6, q7, _⟩ := check_ok (known_one h).1
    obtain ⟨held, hg⟩ := st_good (known_one h).1 (isT_known h)
    obtain ⟨g1, g2, g3, g4, g5, g6, g7⟩ := good_state hg
    have hT := isT_known h
    obtain ⟨K, rfl⟩ : ∃ m, K = m + 1 := ⟨K - 1, by omega⟩
    have bad : winnowref19_Begin.j0 (K + 1) true t l0 l1 fl k b (stP l0 l1 k b).f0 (stP l0 l1 k b).f1 (stP l0 l1 k b).f2 = some (0, [], [], false, 0, false, 192) := by
      rw [winnowref19_Begin.j0, if_pos rfl]
    have good : fl = false → ((stP l0 l1 k b).f0 = 0 ∨ (stP l0 l1 k b).f0 = 2) → winnowref19_Begin.j0 (K + 1) false t l0 l1 fl k b (stP l0 l1 k b).f0 (stP l0 l1 k b).f1 (stP l0 l1 k b).f2 =
        some (if (stP l0 l1 k b).f0 = 0 then beginS t l0 l1 k b (stP l0 l1 k b) ((stP l0 l1 k b).f1 + 1) true else beginS t l0 l1 k b (stP l0 l1 k b) (stP l0 l1 k b).f1 false) := by
      intro hf hs
      rw [winnowref19_Begin.j0, if_neg (by decide)]
      by_cases h0 : (stP l0 l1 k b).f0 = 0
      · rw [if_pos h0, if_pos h0, show wrap64 ((stP l0 l1 k b).f1 + 1) = (stP l0 l1 k b).f1 + 1 from by have := g3 h0; unfold wrap64; omega, refWith t l0 l1 fl k b _ _ _ hT l0b l1b, Option.bind_some]
        unfold putP beginS
        by_cases hk : k = 0
        · rw [if_pos hk, if_pos hk, hf, h0]; rfl
        · rw [if_neg hk, if_neg hk, hf, h0]; rfl
      · rw [if_neg h0, if_neg h0, refWith t l0 l1 fl k b _ _ _ hT l0b l1b, Option.bind_some]
        have hb : ((stP l0 l1 k b).f0 == 0) = false := beq_eq_false_iff_ne.2 h0
        unfold putP beginS
        by_cases hk : k = 0
        · rw [if_pos hk, if_pos hk, hf, hb]
        · rw [if_neg hk, if_neg hk, hf, hb]
    dsimp only
    by_cases hf : fl = true
    · rw [if_pos hf, if_pos (.inl hf)]; exact bad
    have hf' : fl = false := by cases fl <;> simp_all
    rw [if_neg hf]
    have tail : ((stP l0 l1 k b).f0 = 0 ∨ (stP l0 l1 k b).f0 = 2) → (if k = 1 then (winnowref19_all.f (K + 1) l0).bind fun x => winnowref19_Begin.j0 (K + 1) (!x) t l0 l1 fl k b (stP l0 l1 k b).f0 (stP l0 l1 k b).f1 (stP l0 l1 k b).f2 else winnowref19_Begin.j0 (K + 1) false t l0 l1 fl k b (stP l0 l1 k b).f0 (stP l0 l1 k b).f1 (stP l0 l1 k b).f2) =
        some (if fl = true ∨ ((stP l0 l1 k b).f0 ≠ 0 ∧ (stP l0 l1 k b).f0 ≠ 2) ∨ (k = 1 ∧ allP l0 = false) then (0, [], [], false, 0, false, 192) else if (stP l0 l1 k b).f0 = 0 then beginS t l0 l1 k b (stP l0 l1 k b) ((stP l0 l1 k b).f1 + 1) true else beginS t l0 l1 k b (stP l0 l1 k b) (stP l0 l1 k b).f1 false) := by
      intro hs
      by_cases hk : k = 1
      · rw [if_pos hk, refAll (K + 1) l0 (by omega) (by omega), Option.bind_some]
        cases ha : allP l0 with
        | false => rw [if_pos (.inr (.inr ⟨hk, rfl⟩))]; exact bad
        | true =>
          rw [if_neg (by rintro (q | q | q); exact hf q; omega; exact absurd q.2 (by decide))]
          exact good hf' hs
      · rw [if_neg hk, if_neg (by rintro (q | q | q); exact hf q; omega; exact hk q.1)]
        exact good hf' hs
    by_cases h0 : (stP l0 l1 k b).f0 = 0
    · rw [if_pos h0]; exact tail (.inl h0)
    rw [if_neg h0]
    by_cases h2 : (stP l0 l1 k b).f0 = 2
    · rw [if_pos h2]; exact tail (.inr h2)
    rw [if_neg h2, if_pos (.inr (.inl ⟨h0, h2⟩))]
    exact bad
  · rw [if_neg h, if_neg h]
end Go.Proofs.YtponmfnegdlppaaDoor.P

end
section
/- The law on Begins: its walk (printed by HLaws.gen.py). -/
namespace Go.Proofs.YtponmfnegdlppaaDoor.P
open Go.RowKit Go.Proofs.YtponmfnegdlppaaDoorW.PrintWords Go.Proofs.YtponmfnegdlppaaDoorW.PrintLast Go.Proofs.YtponmfnegdlppaaDoorW.PrintMore
set_option linter.unusedVariables false
set_option linter.unusedSimpArgs false

theorem beginP_len {t : Int} {l0 l1 : List S38} {fl : Bool} {k b r1 : Int} {r2 r3 : List S38} {r4 : Bool} {r5 : Int} {r6 : Bool} {r7 : Int} (h : beginP t l0 l1 fl k b = (r1, r2, r3, r4, r5, r6, r7)) : r2.length ≤ 100000 ∧ r3.length ≤ 100000 := by
  unfold beginP beginS at h
  by_cases hk : knownP t l0 l1 fl [⟨k, b⟩] = 0
  · rw [if_pos hk] at h
    have hl := len_ok (known_one hk).1
    repeat' split at h
    all_goals (simp only [Prod.mk.injEq] at h; obtain ⟨_, rfl, rfl, _⟩ := h)
    all_goals first | exact ⟨by simp, by simp⟩ | exact hl | (rw [List.length_set]; exact hl)
  · rw [if_neg hk] at h
    simp only [Prod.mk.injEq] at h
    obtain ⟨_, rfl, rfl, _⟩ := h
    exact ⟨by simp, by simp⟩
set_option maxHeartbeats 16000000 in
set_option maxRecDepth 100000 in
theorem LedgerBegins_walk (t : Int) (A0 : Option Addr) (c0 : Nat) (l0 : List S38) (A1 : Option Addr) (c1 : Nat) (l1 : List S38) (fl : Bool) (k b : Int) (w : World) (hC0 : Kd.C k38 w A0 l0.length l0) (hc0 : l0.length ≤ c0) (hC1 : Kd.C k38 w A1 l1.length l1) (hc1 : l1.length ≤ c1) (hl0 : l0.length ≤ 6000000000000) (hl1 : l1.length ≤ 6000000000000) (hT : Tab w) :
    Calls Tryd.prog 5 #[.agg #[.int .i64 t, .slice A0 l0.length c0, .slice A1 l1.length c1, .bool fl], .agg #[.int .i64 k, .int .i64 b]] w fun e w' => e = .returned (.bool true) ∧ Below w.heap.size w w' := by
  have HC0 := Aside0.mk hC0
  have HC1 := Aside0.mk hC1
  have Hc0 := Aside0.mk hc0
  have Hc1 := Aside0.mk hc1
  have HL0 := Aside0.mk hl0
  have HL1 := Aside0.mk hl1
  have HT := Aside0.mk hT
  have HTL0 := Aside0.mk (turn_eq l0 hl0).2
  have HTL1 := Aside0.mk (turn_eq l1 hl1).2
  clear hC0 hC1 hc0 hc1 hl0 hl1 hT
  have hu22 := Tryd.underlying22
  have hu24 := Tryd.underlying24
  have hu29 := Tryd.underlying29
  obtain ⟨⟨d1, d2, d3, d4, d5, d6, d7⟩, hd⟩ : ∃ r, beginP t l0 l1 fl k b = r := ⟨_, rfl⟩
  obtain ⟨⟨p1, p2, p3, p4, p5, p6, p7⟩, hp⟩ : ∃ r, beginP t (turn l0) (turn l1) fl k b = r := ⟨_, rfl⟩
  have HD := Aside0.mk hd
  have HP := Aside0.mk hp
  have dLEN := Aside0.mk (beginP_len hd)
  have pLEN := Aside0.mk (beginP_len hp)
  clear hd hp
  have HLT0 := Aside0.mk (show (turn l0).length ≤ 6000000000000 by rw [HTL0.out]; exact HL0.out)
  have HLT1 := Aside0.mk (show (turn l1).length ≤ 6000000000000 by rw [HTL1.out]; exact HL1.out)
  have z0 : (w.alloc (.cells #[.int .i64 t, .slice A0 l0.length c0, .slice A1 l1.length c1, .bool fl] 24)).heap.size = w.heap.size + 1 := by simp
  have hE0 := ((Env.start w).push #[.int .i64 t, .slice A0 l0.length c0, .slice A1 l1.length c1, .bool fl] 24).push #[.int .i64 k, .int .i64 b] 29
  rw [z0] at hE0
  clear z0
  obtain ⟨g3, hg1⟩ : ∃ g, g = w.heap.size + 1 := ⟨_, rfl⟩
  obtain ⟨g2, hg0⟩ : ∃ g, g = w.heap.size := ⟨_, rfl⟩
  rw [← hg1, ← hg0] at hE0
  obtain ⟨W0, hW0, hE⟩ : ∃ W0, (w.alloc (.cells #[.int .i64 t, .slice A0 l0.length c0, .slice A1 l1.length c1, .bool fl] 24)).alloc (.cells #[.int .i64 k, .int .i64 b] 29) = W0 ∧ Env w _ _ W0 := ⟨_, rfl, hE0⟩
  have HG0 := Aside0.mk hg0
  have HG1 := Aside0.mk hg1
  have HW0 := Aside0.mk hW0
  have HE := Aside0.mk hE
  clear hE hE0 hW0 hg0 hg1
  go_enter Tryd.func5, Tryd.ntmps5
  go_upto_region 1 with fail
  rw [← HG1.out, ← HG0.out, HW0.out]
  clear HW0 HG0 HG1
  have xg2_0 : W0.cell? ⟨g2, 0, none⟩ = some (.int .i64 t) := HE.out.at_ 1 0 rfl rfl
  have xg2_1 : W0.cell? ⟨g2, 1, none⟩ = some (.slice A0 l0.length c0) := HE.out.at_ 1 1 rfl rfl
  have xg2_2 : W0.cell? ⟨g2, 2, none⟩ = some (.slice A1 l1.length c1) := HE.out.at_ 1 2 rfl rfl
  have xg2_3 : W0.cell? ⟨g2, 3, none⟩ = some (.bool fl) := HE.out.at_ 1 3 rfl rfl
  go_wp2_with fail
  refine (given_any t fl A0 c0 l0 A1 c1 l1 _ (HE.out.came HC0.out) Hc0.out (HE.out.came HC1.out) Hc1.out HL0.out HL1.out).mono ?_
  clear xg2_0 xg2_1 xg2_2 xg2_3
  rintro e w1 ⟨X0, x0, X1, x1, rfl, hx0, hx1, s0, s1, hB⟩
  have hE := HE.out.rows2 hB rfl s0 s1 1 2 (show ([1, 2] : List Nat).Nodup from by decide) (by decide) (by decide)
  have Hx0 := Aside0.mk hx0
  have Hx1 := Aside0.mk hx1
  clear hB s0 s1 HE hx0 hx1
  have HE := Aside0.mk hE
  clear hE
  go_upto_region 2 with fail
  have hE := HE.out.push #[.int .i64 t, .slice X0 l0.length x0, .slice X1 l1.length x1, .bool fl] 24
  obtain ⟨g5, hg⟩ : ∃ g, g = w1.heap.size := ⟨_, rfl⟩
  rw [← hg] at hE ⊢
  generalize w1.alloc (.cells #[.int .i64 t, .slice X0 l0.length x0, .slice X1 l1.length x1, .bool fl] 24) = w2 at hE ⊢
  clear hg HE
  have HE := Aside0.mk hE
  clear hE
  have xg5_0 : w2.cell? ⟨g5, 0, none⟩ = some (.int .i64 t) := HE.out.at_ 0 0 rfl rfl
  have xg5_1 : w2.cell? ⟨g5, 1, none⟩ = some (.slice X0 l0.length x0) := HE.out.at_ 0 1 rfl rfl
  have xg5_2 : w2.cell? ⟨g5, 2, none⟩ = some (.slice X1 l1.length x1) := HE.out.at_ 0 2 rfl rfl
  have xg5_3 : w2.cell? ⟨g5, 3, none⟩ = some (.bool fl) := HE.out.at_ 0 3 rfl rfl
  have xg3_0 : w2.cell? ⟨g3, 0, none⟩ = some (.int .i64 k) := HE.out.at_ 1 0 rfl rfl
  have xg3_1 : w2.cell? ⟨g3, 1, none⟩ = some (.int .i64 b) := HE.out.at_ 1 1 rfl rfl
  go_wp2_with fail
  refine (begin_any t fl _ _ l0 _ _ l1 k b d1 d2 d3 d4 d5 d6 d7 _ (C_front (HE.out.row_ 0 rfl)) (by have := Hx0.out; omega) (C_front (HE.out.row_ 1 rfl)) HL0.out HL1.out (HE.out.tab HT.out) HD.out).mono ?_
  clear xg5_0 xg5_1 xg5_2 xg5_3 xg3_0 xg3_1
  rintro e w3 ⟨v0, v1, rfl, s0, s1, hB⟩
  have hE := HE.out.rows2 hB rfl s0 s1 3 4 (show ([3, 4, 1, 2] : List Nat).Nodup from by decide) (by decide) (by decide)
  obtain ⟨P0, p0_, rfl⟩ := Kd.R_slice s0
  obtain ⟨P1, p1_, rfl⟩ := Kd.R_slice s1
  clear hB s0 s1 HE
  have HE := Aside0.mk hE
  clear hE
  go_upto_region 3 with fail
  have hE := HE.out.push #[.int .i64 d1, .slice P0 d2.length p0_, .slice P1 d3.length p1_, .bool d4] 24
  obtain ⟨g6, hg⟩ : ∃ g, g = w3.heap.size := ⟨_, rfl⟩
  rw [← hg] at hE ⊢
  generalize w3.alloc (.cells #[.int .i64 d1, .slice P0 d2.length p0_, .slice P1 d3.length p1_, .bool d4] 24) = w4 at hE ⊢
  clear hg HE
  have HE := Aside0.mk hE
  clear hE
  have xg5_0 : w4.cell? ⟨g5, 0, none⟩ = some (.int .i64 t) := HE.out.at_ 1 0 rfl rfl
  have xg5_1 : w4.cell? ⟨g5, 1, none⟩ = some (.slice X0 l0.length x0) := HE.out.at_ 1 1 rfl rfl
  have xg5_2 : w4.cell? ⟨g5, 2, none⟩ = some (.slice X1 l1.length x1) := HE.out.at_ 1 2 rfl rfl
  have xg5_3 : w4.cell? ⟨g5, 3, none⟩ = some (.bool fl) := HE.out.at_ 1 3 rfl rfl
  have xg3_0 : w4.cell? ⟨g3, 0, none⟩ = some (.int .i64 k) := HE.out.at_ 2 0 rfl rfl
  have xg3_1 : w4.cell? ⟨g3, 1, none⟩ = some (.int .i64 b) := HE.out.at_ 2 1 rfl rfl
  go_wp2_with fail
  refine (begin_any t fl _ _ l0 _ _ l1 k b d1 d2 d3 d4 d5 d6 d7 _ (C_front (HE.out.row_ 2 rfl)) (by have := Hx0.out; omega) (C_front (HE.out.row_ 3 rfl)) HL0.out HL1.out (HE.out.tab HT.out) HD.out).mono ?_
  clear xg5_0 xg5_1 xg5_2 xg5_3 xg3_0 xg3_1
  rintro e w5 ⟨v0, v1, rfl, s0, s1, hB⟩
  have hE := HE.out.rows2 hB rfl s0 s1 5 6 (show ([5, 6, 3, 4, 1, 2] : List Nat).Nodup from by decide) (by decide) (by decide)
  obtain ⟨Q0, q0_, rfl⟩ := Kd.R_slice s0
  obtain ⟨Q1, q1_, rfl⟩ := Kd.R_slice s1
  clear hB s0 s1 HE
  have HE := Aside0.mk hE
  clear hE
  go_upto_region 4 with fail
  have hE := HE.out.push #[.int .i64 d1, .slice Q0 d2.length q0_, .slice Q1 d3.length q1_, .bool d4] 24
  obtain ⟨g10, hg⟩ : ∃ g, g = w5.heap.size := ⟨_, rfl⟩
  rw [← hg] at hE ⊢
  generalize w5.alloc (.cells #[.int .i64 d1, .slice Q0 d2.length q0_, .slice Q1 d3.length q1_, .bool d4] 24) = w6 at hE ⊢
  clear hg HE
  have HE := Aside0.mk hE
  clear hE
  have xg2_0 : w6.cell? ⟨g2, 0, none⟩ = some (.int .i64 t) := HE.out.at_ 4 0 rfl rfl
  have xg2_1 : w6.cell? ⟨g2, 1, none⟩ = some (.slice A0 l0.length c0) := HE.out.at_ 4 1 rfl rfl
  have xg2_2 : w6.cell? ⟨g2, 2, none⟩ = some (.slice A1 l1.length c1) := HE.out.at_ 4 2 rfl rfl
  have xg2_3 : w6.cell? ⟨g2, 3, none⟩ = some (.bool fl) := HE.out.at_ 4 3 rfl rfl
  have xg3_0 : w6.cell? ⟨g3, 0, none⟩ = some (.int .i64 k) := HE.out.at_ 3 0 rfl rfl
  have xg3_1 : w6.cell? ⟨g3, 1, none⟩ = some (.int .i64 b) := HE.out.at_ 3 1 rfl rfl
  go_wp2_with fail
  refine (winnowref19_Begin.calls 70001 t _ _ l0 _ _ l1 fl k b d1 d2 d3 d4 d5 d6 d7 _ (HE.out.came HC0.out) Hc0.out (HE.out.came HC1.out) Hc1.out (by rw [refBegin 70001 t l0 l1 fl k b (by omega), HD.out])).mono ?_
  clear xg2_0 xg2_1 xg2_2 xg2_3 xg3_0 xg3_1
  rintro e w7 ⟨v0, v1, rfl, s0, s1, hB⟩
  have hE := HE.out.rows2 hB rfl s0 s1 7 8 (show ([7, 8, 5, 6, 3, 4, 1, 2] : List Nat).Nodup from by decide) (by decide) (by decide)
  obtain ⟨Z0, z0_, rfl⟩ := Kd.R_slice s0
  obtain ⟨Z1, z1_, rfl⟩ := Kd.R_slice s1
  clear hB s0 s1 HE
  have HE := Aside0.mk hE
  clear hE
  go_upto_region 5 with fail
  have hE := HE.out.push #[.int .i64 d1, .slice Z0 d2.length z0_, .slice Z1 d3.length z1_, .bool d4] 24
  obtain ⟨g14, hg⟩ : ∃ g, g = w7.heap.size := ⟨_, rfl⟩
  rw [← hg] at hE ⊢
  generalize w7.alloc (.cells #[.int .i64 d1, .slice Z0 d2.length z0_, .slice Z1 d3.length z1_, .bool d4] 24) = w8 at hE ⊢
  clear hg HE
  have HE := Aside0.mk hE
  clear hE
  have xg6_0 : w8.cell? ⟨g6, 0, none⟩ = some (.int .i64 d1) := HE.out.at_ 2 0 rfl rfl
  have xg6_1 : w8.cell? ⟨g6, 1, none⟩ = some (.slice P0 d2.length p0_) := HE.out.at_ 2 1 rfl rfl
  have xg6_2 : w8.cell? ⟨g6, 2, none⟩ = some (.slice P1 d3.length p1_) := HE.out.at_ 2 2 rfl rfl
  have xg6_3 : w8.cell? ⟨g6, 3, none⟩ = some (.bool d4) := HE.out.at_ 2 3 rfl rfl
  have xg10_0 : w8.cell? ⟨g10, 0, none⟩ = some (.int .i64 d1) := HE.out.at_ 1 0 rfl rfl
  have xg10_1 : w8.cell? ⟨g10, 1, none⟩ = some (.slice Q0 d2.length q0_) := HE.out.at_ 1 1 rfl rfl
  have xg10_2 : w8.cell? ⟨g10, 2, none⟩ = some (.slice Q1 d3.length q1_) := HE.out.at_ 1 2 rfl rfl
  have xg10_3 : w8.cell? ⟨g10, 3, none⟩ = some (.bool d4) := HE.out.at_ 1 3 rfl rfl
  have xg14_0 : w8.cell? ⟨g14, 0, none⟩ = some (.int .i64 d1) := HE.out.at_ 0 0 rfl rfl
  have xg14_1 : w8.cell? ⟨g14, 1, none⟩ = some (.slice Z0 d2.length z0_) := HE.out.at_ 0 1 rfl rfl
  have xg14_2 : w8.cell? ⟨g14, 2, none⟩ = some (.slice Z1 d3.length z1_) := HE.out.at_ 0 2 rfl rfl
  have xg14_3 : w8.cell? ⟨g14, 3, none⟩ = some (.bool d4) := HE.out.at_ 0 3 rfl rfl
  go_wp2_with fail
  have hE : Env w _ (⟨3, k38, 38, .slice P0 d2.length p0_, d2⟩ :: ⟨4, k38, 38, .slice P1 d3.length p1_, d3⟩ :: ⟨5, k38, 38, .slice Q0 d2.length q0_, d2⟩ :: ⟨6, k38, 38, .slice Q1 d3.length q1_, d3⟩ :: ⟨7, k38, 38, .slice Z0 d2.length z0_, d2⟩ :: ⟨8, k38, 38, .slice Z1 d3.length z1_, d3⟩ :: ⟨1, k38, 38, .slice X0 (l0 ++ marks).length x0, (l0 ++ marks)⟩ :: ⟨2, k38, 38, .slice X1 (l1 ++ marks).length x1, (l1 ++ marks)⟩ :: []) _ := HE.out.pick [4, 5, 2, 3, 0, 1, 6, 7] (show ([3, 4, 5, 6, 7, 8, 1, 2] : List Nat).Nodup from by decide)
  clear HE
  have HE := Aside0.mk hE
  clear hE
  refine (apart_env d1 d4 HE.out dLEN.out.1 dLEN.out.2).mono ?_
  clear xg6_0 xg6_1 xg6_2 xg6_3 xg10_0 xg10_1 xg10_2 xg10_3 xg14_0 xg14_1 xg14_2 xg14_3
  rintro e w9 ⟨rfl, hE⟩
  clear HE
  have HE := Aside0.mk hE
  clear hE
  have xg5_0 : w9.cell? ⟨g5, 0, none⟩ = some (.int .i64 t) := HE.out.at_ 3 0 rfl rfl
  have xg5_1 : w9.cell? ⟨g5, 1, none⟩ = some (.slice X0 l0.length x0) := HE.out.at_ 3 1 rfl rfl
  have xg5_2 : w9.cell? ⟨g5, 2, none⟩ = some (.slice X1 l1.length x1) := HE.out.at_ 3 2 rfl rfl
  have xg5_3 : w9.cell? ⟨g5, 3, none⟩ = some (.bool fl) := HE.out.at_ 3 3 rfl rfl
  have xg2_0 : w9.cell? ⟨g2, 0, none⟩ = some (.int .i64 t) := HE.out.at_ 5 0 rfl rfl
  have xg2_1 : w9.cell? ⟨g2, 1, none⟩ = some (.slice A0 l0.length c0) := HE.out.at_ 5 1 rfl rfl
  have xg2_2 : w9.cell? ⟨g2, 2, none⟩ = some (.slice A1 l1.length c1) := HE.out.at_ 5 2 rfl rfl
  have xg2_3 : w9.cell? ⟨g2, 3, none⟩ = some (.bool fl) := HE.out.at_ 5 3 rfl rfl
  go_wp2_with fail
  refine (kept_any t fl X0 A0 x0 c0 l0 X1 A1 x1 c1 l1 _ (HE.out.row_ 0 rfl) (HE.out.row_ 1 rfl) (C_front (HE.out.row_ 0 rfl)) (C_front (HE.out.row_ 1 rfl)) (HE.out.came HC0.out) (HE.out.came HC1.out) Hx0.out Hx1.out Hc0.out Hc1.out HL0.out HL1.out).mono ?_
  clear xg5_0 xg5_1 xg5_2 xg5_3 xg2_0 xg2_1 xg2_2 xg2_3
  rintro e w10 ⟨rfl, hB⟩
  have hE := HE.out.below hB
  clear HE hB
  have HE := Aside0.mk hE
  clear hE
  go_upto_region 7 with fail
  have hE : Env w _ (⟨1, k38, 38, .slice X0 (l0 ++ marks).length x0, (l0 ++ marks)⟩ :: ⟨2, k38, 38, .slice X1 (l1 ++ marks).length x1, (l1 ++ marks)⟩ :: []) _ := HE.out.pick [0, 1] (show ([1, 2] : List Nat).Nodup from by decide)
  clear HE
  have HE := Aside0.mk hE
  clear hE
  have hE := HE.out.front.swap.front.swap
  clear HE
  have HE := Aside0.mk hE
  clear hE
  go_cut [18, 19, 20, 21] (fun s0 s1 s2 s3 wx => ∃ (g18 : Nat) (U0 : Option Addr) (u0_ : Nat) (U1 : Option Addr) (u1_ : Nat), s0 = .pointer (some ⟨g18, 0, none⟩) ∧ s1 = .int .i64 p5 ∧ s2 = .bool p6 ∧ s3 = .int .i64 p7 ∧ Aside0 (Env w (⟨g18, #[.int .i64 p1, .slice U0 p2.length u0_, .slice U1 p3.length u1_, .bool p4], 24⟩ :: ⟨g14, #[.int .i64 d1, .slice Z0 d2.length z0_, .slice Z1 d3.length z1_, .bool d4], 24⟩ :: ⟨g10, #[.int .i64 d1, .slice Q0 d2.length q0_, .slice Q1 d3.length q1_, .bool d4], 24⟩ :: ⟨g6, #[.int .i64 d1, .slice P0 d2.length p0_, .slice P1 d3.length p1_, .bool d4], 24⟩ :: ⟨g5, #[.int .i64 t, .slice X0 l0.length x0, .slice X1 l1.length x1, .bool fl], 24⟩ :: ⟨g3, #[.int .i64 k, .int .i64 b], 29⟩ :: ⟨g2, #[.int .i64 t, .slice A0 l0.length c0, .slice A1 l1.length c1, .bool fl], 24⟩ :: []) (⟨9, k38, 38, .slice U0 p2.length u0_, p2⟩ :: ⟨10, k38, 38, .slice U1 p3.length u1_, p3⟩ :: ⟨1, k38, 38, .slice X0 l0.length x0, (turn l0)⟩ :: ⟨2, k38, 38, .slice X1 l1.length x1, (turn l1)⟩ :: []) wx))
  case first =>
    have HSX := Aside0.mk (fun (w' : World) (h : Env w (⟨g14, #[.int .i64 d1, .slice Z0 d2.length z0_, .slice Z1 d3.length z1_, .bool d4], 24⟩ :: ⟨g10, #[.int .i64 d1, .slice Q0 d2.length q0_, .slice Q1 d3.length q1_, .bool d4], 24⟩ :: ⟨g6, #[.int .i64 d1, .slice P0 d2.length p0_, .slice P1 d3.length p1_, .bool d4], 24⟩ :: ⟨g5, #[.int .i64 t, .slice X0 l0.length x0, .slice X1 l1.length x1, .bool fl], 24⟩ :: ⟨g3, #[.int .i64 k, .int .i64 b], 29⟩ :: ⟨g2, #[.int .i64 t, .slice A0 l0.length c0, .slice A1 l1.length c1, .bool fl], 24⟩ :: []) [] w') => (show w'.cell? ⟨g5, 0, none⟩ = some (.int .i64 t) ∧ w'.cell? ⟨g5, 1, none⟩ = some (.slice X0 l0.length x0) ∧ w'.cell? ⟨g5, 2, none⟩ = some (.slice X1 l1.length x1) ∧ w'.cell? ⟨g5, 3, none⟩ = some (.bool fl) ∧ w'.cell? ⟨g3, 0, none⟩ = some (.int .i64 k) ∧ w'.cell? ⟨g3, 1, none⟩ = some (.int .i64 b) from ⟨h.at_ 3 0 rfl rfl, h.at_ 3 1 rfl rfl, h.at_ 3 2 rfl rfl, h.at_ 3 3 rfl rfl, h.at_ 4 0 rfl rfl, h.at_ 4 1 rfl rfl⟩))
    go_region_held3 (fun w' => w'.cell? ⟨g5, 0, none⟩ = some (.int .i64 t) ∧ w'.cell? ⟨g5, 1, none⟩ = some (.slice X0 l0.length x0) ∧ w'.cell? ⟨g5, 2, none⟩ = some (.slice X1 l1.length x1) ∧ w'.cell? ⟨g5, 3, none⟩ = some (.bool fl) ∧ w'.cell? ⟨g3, 0, none⟩ = some (.int .i64 k) ∧ w'.cell? ⟨g3, 1, none⟩ = some (.int .i64 b)) (first
        | exact HSX.out _ (HB1.out.push #[.int .i64 p1, .slice U0 p2.length u0_, .slice U1 p3.length u1_, .bool p4] 24).bare1
        | exact HSX.out _ HB1.out.bare
        | exact HSX.out _ HB1.out.bare1
        | exact HSX.out _ (HB1.out.push #[.int .i64 0, .slice none 0 0, .slice none 0 0, .bool false] 24).bare1
        | exact HSX.out _ HB1.out.drew.bare
        | exact HSX.out _ HB1.out.drew.bare1
        | exact HSX.out _ (HB1.out.push #[.int .i64 0, .slice none 0 0, .slice none 0 0, .bool false] 24).drew.bare1
        | exact HSX.out _ HT1.out.bare
        | exact HSX.out _ HT1.out.bare1
        | exact HSX.out _ (HT1.out.push #[.int .i64 0, .slice none 0 0, .slice none 0 0, .bool false] 24).bare1
        | exact HSX.out _ HT1.out.drew.bare
        | exact HSX.out _ HT1.out.drew.bare1
        | exact HSX.out _ (HT1.out.push #[.int .i64 0, .slice none 0 0, .slice none 0 0, .bool false] 24).drew.bare1
        | exact HSX.out _ HE.out.bare
        | exact HSX.out _ HE.out.bare1
        | exact HSX.out _ (HE.out.push #[.int .i64 0, .slice none 0 0, .slice none 0 0, .bool false] 24).bare1
        | exact HSX.out _ HE.out.drew.bare
        | exact HSX.out _ HE.out.drew.bare1
        | exact HSX.out _ (HE.out.push #[.int .i64 0, .slice none 0 0, .slice none 0 0, .bool false] 24).drew.bare1
        | exact HSX.out _ (((((HB1.out).set 0 (.int .i64 p1)).set 1 (.slice U0 p2.length u0_)).set 2 (.slice U1 p3.length u1_)).set 3 (.bool p4)).bare1
        | exact HSX.out _ (((((HB1.out.push #[.int .i64 0, .slice none 0 0, .slice none 0 0, .bool false] 24).set 0 (.int .i64 p1)).set 1 (.slice U0 p2.length u0_)).set 2 (.slice U1 p3.length u1_)).set 3 (.bool p4)).bare1) (first
        | ((go_at_call 21; (with_reducible refine (turned_env t fl (HE.out.drew) HL0.out HL1.out).mono ?_); rintro e w91 ⟨rfl, hE⟩; have HT1 := Aside0.mk hE; clear hE))
        | ((go_at_call 21; (with_reducible refine (turned_env t fl ((HE.out.push #[.int .i64 0, .slice none 0 0, .slice none 0 0, .bool false] 24).drew) HL0.out HL1.out).mono ?_); rintro e w91 ⟨rfl, hE⟩; have HT1 := Aside0.mk hE; clear hE))
        | ((go_at_call 28; have qc := begin_any t fl X0 x0 (turn l0) X1 x1 (turn l1) k b p1 p2 p3 p4 p5 p6 p7 _ ((HT1.out).row_ 0 rfl) (by rw [HTL0.out]; have := Hx0.out; omega) ((HT1.out).row_ 1 rfl) HLT0.out HLT1.out ((HT1.out).tab HT.out) HP.out; rw [HTL0.out, HTL1.out] at qc; (with_reducible refine qc.mono ?_); clear qc; rintro e w92 ⟨v0, v1, rfl, s0, s1, hB⟩; have hE := (HT1.out).rows2 hB rfl s0 s1 9 10 (show ([9, 10, 1, 2] : List Nat).Nodup from by decide) (by decide) (by decide); obtain ⟨U0, u0_, rfl⟩ := Kd.R_slice s0; obtain ⟨U1, u1_, rfl⟩ := Kd.R_slice s1; have HB1 := Aside0.mk hE; clear hB s0 s1 hE; (try have y0_ : World.cell? _ ⟨_, 0, none⟩ = some (.int .i64 0) := HB1.out.at_ 0 0 rfl rfl); (try have y1_ : World.cell? _ ⟨_, 1, none⟩ = some (.slice none 0 0) := HB1.out.at_ 0 1 rfl rfl); (try have y2_ : World.cell? _ ⟨_, 2, none⟩ = some (.slice none 0 0) := HB1.out.at_ 0 2 rfl rfl); (try have y3_ : World.cell? _ ⟨_, 3, none⟩ = some (.bool false) := HB1.out.at_ 0 3 rfl rfl); (try have f0_ := HB1.out.fr_ 0 0 (cs := #[.int .i64 0, .slice none 0 0, .slice none 0 0, .bool false]) rfl); (try have f1_ := HB1.out.fr_ 0 1 (cs := #[.int .i64 0, .slice none 0 0, .slice none 0 0, .bool false]) rfl); (try have f2_ := HB1.out.fr_ 0 2 (cs := #[.int .i64 0, .slice none 0 0, .slice none 0 0, .bool false]) rfl); (try have f3_ := HB1.out.fr_ 0 3 (cs := #[.int .i64 0, .slice none 0 0, .slice none 0 0, .bool false]) rfl)))
        | ((go_at_call 28; have qc := begin_any t fl X0 x0 (turn l0) X1 x1 (turn l1) k b p1 p2 p3 p4 p5 p6 p7 _ (((HT1.out.push #[.int .i64 0, .slice none 0 0, .slice none 0 0, .bool false] 24)).row_ 0 rfl) (by rw [HTL0.out]; have := Hx0.out; omega) (((HT1.out.push #[.int .i64 0, .slice none 0 0, .slice none 0 0, .bool false] 24)).row_ 1 rfl) HLT0.out HLT1.out (((HT1.out.push #[.int .i64 0, .slice none 0 0, .slice none 0 0, .bool false] 24)).tab HT.out) HP.out; rw [HTL0.out, HTL1.out] at qc; (with_reducible refine qc.mono ?_); clear qc; rintro e w92 ⟨v0, v1, rfl, s0, s1, hB⟩; have hE := ((HT1.out.push #[.int .i64 0, .slice none 0 0, .slice none 0 0, .bool false] 24)).rows2 hB rfl s0 s1 9 10 (show ([9, 10, 1, 2] : List Nat).Nodup from by decide) (by decide) (by decide); obtain ⟨U0, u0_, rfl⟩ := Kd.R_slice s0; obtain ⟨U1, u1_, rfl⟩ := Kd.R_slice s1; have HB1 := Aside0.mk hE; clear hB s0 s1 hE; (try have y0_ : World.cell? _ ⟨_, 0, none⟩ = some (.int .i64 0) := HB1.out.at_ 0 0 rfl rfl); (try have y1_ : World.cell? _ ⟨_, 1, none⟩ = some (.slice none 0 0) := HB1.out.at_ 0 1 rfl rfl); (try have y2_ : World.cell? _ ⟨_, 2, none⟩ = some (.slice none 0 0) := HB1.out.at_ 0 2 rfl rfl); (try have y3_ : World.cell? _ ⟨_, 3, none⟩ = some (.bool false) := HB1.out.at_ 0 3 rfl rfl); (try have f0_ := HB1.out.fr_ 0 0 (cs := #[.int .i64 0, .slice none 0 0, .slice none 0 0, .bool false]) rfl); (try have f1_ := HB1.out.fr_ 0 1 (cs := #[.int .i64 0, .slice none 0 0, .slice none 0 0, .bool false]) rfl); (try have f2_ := HB1.out.fr_ 0 2 (cs := #[.int .i64 0, .slice none 0 0, .slice none 0 0, .bool false]) rfl); (try have f3_ := HB1.out.fr_ 0 3 (cs := #[.int .i64 0, .slice none 0 0, .slice none 0 0, .bool false]) rfl))))
    all_goals (go_wp2_with fail; go_meet; first | exact ⟨_, _, _, _, _, rfl, rfl, rfl, rfl, ⟨(((((HB1.out).set 0 (.int .i64 p1)).set 1 (.slice U0 p2.length u0_)).set 2 (.slice U1 p3.length u1_)).set 3 (.bool p4))⟩⟩ | exact ⟨_, _, _, _, _, rfl, rfl, rfl, rfl, ⟨HB1.out.push #[.int .i64 p1, .slice U0 p2.length u0_, .slice U1 p3.length u1_, .bool p4] 24⟩⟩ | exact ⟨_, _, _, _, _, rfl, rfl, rfl, rfl, ⟨(((((HB1.out.push #[.int .i64 0, .slice none 0 0, .slice none 0 0, .bool false] 24).set 0 (.int .i64 p1)).set 1 (.slice U0 p2.length u0_)).set 2 (.slice U1 p3.length u1_)).set 3 (.bool p4))⟩⟩)
  case rest =>
    clear HE
    obtain ⟨g18, U0, u0_, U1, u1_, rfl, rfl, rfl, rfl, HE⟩ := hcut
    go_upto_region 8 with fail
    go_cut [22, 23, 24, 25] (fun s0 s1 s2 s3 wx => ∃ (g22 : Nat) (V0 : Option Addr) (v0_ : Nat) (V1 : Option Addr) (v1_ : Nat), s0 = .pointer (some ⟨g22, 0, none⟩) ∧ s1 = .int .i64 p5 ∧ s2 = .bool p6 ∧ s3 = .int .i64 p7 ∧ Aside0 (Env w (⟨g22, #[.int .i64 p1, .slice V0 p2.length v0_, .slice V1 p3.length v1_, .bool p4], 24⟩ :: ⟨g18, #[.int .i64 p1, .slice U0 p2.length u0_, .slice U1 p3.length u1_, .bool p4], 24⟩ :: ⟨g14, #[.int .i64 d1, .slice Z0 d2.length z0_, .slice Z1 d3.length z1_, .bool d4], 24⟩ :: ⟨g10, #[.int .i64 d1, .slice Q0 d2.length q0_, .slice Q1 d3.length q1_, .bool d4], 24⟩ :: ⟨g6, #[.int .i64 d1, .slice P0 d2.length p0_, .slice P1 d3.length p1_, .bool d4], 24⟩ :: ⟨g5, #[.int .i64 t, .slice X0 l0.length x0, .slice X1 l1.length x1, .bool fl], 24⟩ :: ⟨g3, #[.int .i64 k, .int .i64 b], 29⟩ :: ⟨g2, #[.int .i64 t, .slice A0 l0.length c0, .slice A1 l1.length c1, .bool fl], 24⟩ :: []) (⟨13, k38, 38, .slice V0 p2.length v0_, p2⟩ :: ⟨14, k38, 38, .slice V1 p3.length v1_, p3⟩ :: ⟨9, k38, 38, .slice U0 p2.length u0_, p2⟩ :: ⟨10, k38, 38, .slice U1 p3.length u1_, p3⟩ :: ⟨1, k38, 38, .slice X0 l0.length x0, (turn l0)⟩ :: ⟨2, k38, 38, .slice X1 l1.length x1, (turn l1)⟩ :: []) wx))
    case first =>
      have HSX := Aside0.mk (fun (w' : World) (h : Env w (⟨g18, #[.int .i64 p1, .slice U0 p2.length u0_, .slice U1 p3.length u1_, .bool p4], 24⟩ :: ⟨g14, #[.int .i64 d1, .slice Z0 d2.length z0_, .slice Z1 d3.length z1_, .bool d4], 24⟩ :: ⟨g10, #[.int .i64 d1, .slice Q0 d2.length q0_, .slice Q1 d3.length q1_, .bool d4], 24⟩ :: ⟨g6, #[.int .i64 d1, .slice P0 d2.length p0_, .slice P1 d3.length p1_, .bool d4], 24⟩ :: ⟨g5, #[.int .i64 t, .slice X0 l0.length x0, .slice X1 l1.length x1, .bool fl], 24⟩ :: ⟨g3, #[.int .i64 k, .int .i64 b], 29⟩ :: ⟨g2, #[.int .i64 t, .slice A0 l0.length c0, .slice A1 l1.length c1, .bool fl], 24⟩ :: []) [] w') => (show w'.cell? ⟨g2, 0, none⟩ = some (.int .i64 t) ∧ w'.cell? ⟨g2, 1, none⟩ = some (.slice A0 l0.length c0) ∧ w'.cell? ⟨g2, 2, none⟩ = some (.slice A1 l1.length c1) ∧ w'.cell? ⟨g2, 3, none⟩ = some (.bool fl) ∧ w'.cell? ⟨g3, 0, none⟩ = some (.int .i64 k) ∧ w'.cell? ⟨g3, 1, none⟩ = some (.int .i64 b) from ⟨h.at_ 6 0 rfl rfl, h.at_ 6 1 rfl rfl, h.at_ 6 2 rfl rfl, h.at_ 6 3 rfl rfl, h.at_ 5 0 rfl rfl, h.at_ 5 1 rfl rfl⟩))
      go_region_held3 (fun w' => w'.cell? ⟨g2, 0, none⟩ = some (.int .i64 t) ∧ w'.cell? ⟨g2, 1, none⟩ = some (.slice A0 l0.length c0) ∧ w'.cell? ⟨g2, 2, none⟩ = some (.slice A1 l1.length c1) ∧ w'.cell? ⟨g2, 3, none⟩ = some (.bool fl) ∧ w'.cell? ⟨g3, 0, none⟩ = some (.int .i64 k) ∧ w'.cell? ⟨g3, 1, none⟩ = some (.int .i64 b)) (first
          | exact HSX.out _ (HG1.out.push #[.int .i64 p1, .slice V0 p2.length v0_, .slice V1 p3.length v1_, .bool p4] 24).bare1
          | exact HSX.out _ HG1.out.bare
          | exact HSX.out _ HG1.out.bare1
          | exact HSX.out _ (HG1.out.push #[.int .i64 0, .slice none 0 0, .slice none 0 0, .bool false] 24).bare1
          | exact HSX.out _ HG1.out.drew.bare
          | exact HSX.out _ HG1.out.drew.bare1
          | exact HSX.out _ (HG1.out.push #[.int .i64 0, .slice none 0 0, .slice none 0 0, .bool false] 24).drew.bare1
          | exact HSX.out _ HT1.out.bare
          | exact HSX.out _ HT1.out.bare1
          | exact HSX.out _ (HT1.out.push #[.int .i64 0, .slice none 0 0, .slice none 0 0, .bool false] 24).bare1
          | exact HSX.out _ HT1.out.drew.bare
          | exact HSX.out _ HT1.out.drew.bare1
          | exact HSX.out _ (HT1.out.push #[.int .i64 0, .slice none 0 0, .slice none 0 0, .bool false] 24).drew.bare1
          | exact HSX.out _ HV1.out.bare
          | exact HSX.out _ HV1.out.bare1
          | exact HSX.out _ (HV1.out.push #[.int .i64 0, .slice none 0 0, .slice none 0 0, .bool false] 24).bare1
          | exact HSX.out _ HV1.out.drew.bare
          | exact HSX.out _ HV1.out.drew.bare1
          | exact HSX.out _ (HV1.out.push #[.int .i64 0, .slice none 0 0, .slice none 0 0, .bool false] 24).drew.bare1
          | exact HSX.out _ HE.out.bare
          | exact HSX.out _ HE.out.bare1
          | exact HSX.out _ (HE.out.push #[.int .i64 0, .slice none 0 0, .slice none 0 0, .bool false] 24).bare1
          | exact HSX.out _ HE.out.drew.bare
          | exact HSX.out _ HE.out.drew.bare1
          | exact HSX.out _ (HE.out.push #[.int .i64 0, .slice none 0 0, .slice none 0 0, .bool false] 24).drew.bare1
          | exact HSX.out _ (((((HG1.out).set 0 (.int .i64 p1)).set 1 (.slice V0 p2.length v0_)).set 2 (.slice V1 p3.length v1_)).set 3 (.bool p4)).bare1
          | exact HSX.out _ (((((HG1.out.push #[.int .i64 0, .slice none 0 0, .slice none 0 0, .bool false] 24).set 0 (.int .i64 p1)).set 1 (.slice V0 p2.length v0_)).set 2 (.slice V1 p3.length v1_)).set 3 (.bool p4)).bare1) (first
          | ((go_at_call 10; (with_reducible refine (given_any t fl A0 c0 l0 A1 c1 l1 _ ((HE.out.drew).came HC0.out) Hc0.out ((HE.out.drew).came HC1.out) Hc1.out HL0.out HL1.out).mono ?_); rintro e w93 ⟨Y0, y0, Y1, y1, rfl, hy0, hy1, s0, s1, hB⟩; have HV1 := Aside0.mk (((HE.out.drew).rows2 hB rfl s0 s1 11 12 (show ([11, 12, 9, 10, 1, 2] : List Nat).Nodup from by decide) (by decide) (by decide)).front.swap.front.swap); have Hy0 := Aside0.mk hy0; have Hy1 := Aside0.mk hy1; clear hB s0 s1 hy0 hy1))
          | ((go_at_call 10; (with_reducible refine (given_any t fl A0 c0 l0 A1 c1 l1 _ (((HE.out.push #[.int .i64 0, .slice none 0 0, .slice none 0 0, .bool false] 24).drew).came HC0.out) Hc0.out (((HE.out.push #[.int .i64 0, .slice none 0 0, .slice none 0 0, .bool false] 24).drew).came HC1.out) Hc1.out HL0.out HL1.out).mono ?_); rintro e w93 ⟨Y0, y0, Y1, y1, rfl, hy0, hy1, s0, s1, hB⟩; have HV1 := Aside0.mk ((((HE.out.push #[.int .i64 0, .slice none 0 0, .slice none 0 0, .bool false] 24).drew).rows2 hB rfl s0 s1 11 12 (show ([11, 12, 9, 10, 1, 2] : List Nat).Nodup from by decide) (by decide) (by decide)).front.swap.front.swap); have Hy0 := Aside0.mk hy0; have Hy1 := Aside0.mk hy1; clear hB s0 s1 hy0 hy1))
          | ((go_at_call 21; (with_reducible refine (turned_env t fl (HV1.out) HL0.out HL1.out).mono ?_); rintro e w94 ⟨rfl, hE⟩; have HT1 := Aside0.mk hE; clear hE))
          | ((go_at_call 21; (with_reducible refine (turned_env t fl ((HV1.out.push #[.int .i64 0, .slice none 0 0, .slice none 0 0, .bool false] 24)) HL0.out HL1.out).mono ?_); rintro e w94 ⟨rfl, hE⟩; have HT1 := Aside0.mk hE; clear hE))
          | ((go_at_call 29; have qc := winnowref19_Begin.calls 70001 t Y0 y0 (turn l0) Y1 y1 (turn l1) fl k b p1 p2 p3 p4 p5 p6 p7 _ ((HT1.out).row_ 0 rfl) (by rw [HTL0.out]; have := Hy0.out; omega) ((HT1.out).row_ 1 rfl) (by rw [HTL1.out]; have := Hy1.out; omega) (by rw [refBegin 70001 t _ _ fl k b (by omega), HP.out]); rw [HTL0.out, HTL1.out] at qc; (with_reducible refine qc.mono ?_); clear qc; rintro e w95 ⟨v0, v1, rfl, s0, s1, hB⟩; have hE := ((HT1.out).rows2 hB rfl s0 s1 13 14 (show ([13, 14, 11, 12, 9, 10, 1, 2] : List Nat).Nodup from by decide) (by decide) (by decide)).pick [0, 1, 4, 5, 6, 7] (show ([13, 14, 9, 10, 1, 2] : List Nat).Nodup from by decide); obtain ⟨V0, v0_, rfl⟩ := Kd.R_slice s0; obtain ⟨V1, v1_, rfl⟩ := Kd.R_slice s1; have HG1 : Aside0 (Env w _ (⟨13, k38, 38, .slice V0 p2.length v0_, p2⟩ :: ⟨14, k38, 38, .slice V1 p3.length v1_, p3⟩ :: ⟨9, k38, 38, .slice U0 p2.length u0_, p2⟩ :: ⟨10, k38, 38, .slice U1 p3.length u1_, p3⟩ :: ⟨1, k38, 38, .slice X0 l0.length x0, (turn l0)⟩ :: ⟨2, k38, 38, .slice X1 l1.length x1, (turn l1)⟩ :: []) _) := Aside0.mk hE; clear hB s0 s1 hE; (try have y0_ : World.cell? _ ⟨_, 0, none⟩ = some (.int .i64 0) := HG1.out.at_ 0 0 rfl rfl); (try have y1_ : World.cell? _ ⟨_, 1, none⟩ = some (.slice none 0 0) := HG1.out.at_ 0 1 rfl rfl); (try have y2_ : World.cell? _ ⟨_, 2, none⟩ = some (.slice none 0 0) := HG1.out.at_ 0 2 rfl rfl); (try have y3_ : World.cell? _ ⟨_, 3, none⟩ = some (.bool false) := HG1.out.at_ 0 3 rfl rfl); (try have f0_ := HG1.out.fr_ 0 0 (cs := #[.int .i64 0, .slice none 0 0, .slice none 0 0, .bool false]) rfl); (try have f1_ := HG1.out.fr_ 0 1 (cs := #[.int .i64 0, .slice none 0 0, .slice none 0 0, .bool false]) rfl); (try have f2_ := HG1.out.fr_ 0 2 (cs := #[.int .i64 0, .slice none 0 0, .slice none 0 0, .bool false]) rfl); (try have f3_ := HG1.out.fr_ 0 3 (cs := #[.int .i64 0, .slice none 0 0, .slice none 0 0, .bool false]) rfl)))
          | ((go_at_call 29; have qc := winnowref19_Begin.calls 70001 t Y0 y0 (turn l0) Y1 y1 (turn l1) fl k b p1 p2 p3 p4 p5 p6 p7 _ (((HT1.out.push #[.int .i64 0, .slice none 0 0, .slice none 0 0, .bool false] 24)).row_ 0 rfl) (by rw [HTL0.out]; have := Hy0.out; omega) (((HT1.out.push #[.int .i64 0, .slice none 0 0, .slice none 0 0, .bool false] 24)).row_ 1 rfl) (by rw [HTL1.out]; have := Hy1.out; omega) (by rw [refBegin 70001 t _ _ fl k b (by omega), HP.out]); rw [HTL0.out, HTL1.out] at qc; (with_reducible refine qc.mono ?_); clear qc; rintro e w95 ⟨v0, v1, rfl, s0, s1, hB⟩; have hE := (((HT1.out.push #[.int .i64 0, .slice none 0 0, .slice none 0 0, .bool false] 24)).rows2 hB rfl s0 s1 13 14 (show ([13, 14, 11, 12, 9, 10, 1, 2] : List Nat).Nodup from by decide) (by decide) (by decide)).pick [0, 1, 4, 5, 6, 7] (show ([13, 14, 9, 10, 1, 2] : List Nat).Nodup from by decide); obtain ⟨V0, v0_, rfl⟩ := Kd.R_slice s0; obtain ⟨V1, v1_, rfl⟩ := Kd.R_slice s1; have HG1 : Aside0 (Env w _ (⟨13, k38, 38, .slice V0 p2.length v0_, p2⟩ :: ⟨14, k38, 38, .slice V1 p3.length v1_, p3⟩ :: ⟨9, k38, 38, .slice U0 p2.length u0_, p2⟩ :: ⟨10, k38, 38, .slice U1 p3.length u1_, p3⟩ :: ⟨1, k38, 38, .slice X0 l0.length x0, (turn l0)⟩ :: ⟨2, k38, 38, .slice X1 l1.length x1, (turn l1)⟩ :: []) _) := Aside0.mk hE; clear hB s0 s1 hE; (try have y0_ : World.cell? _ ⟨_, 0, none⟩ = some (.int .i64 0) := HG1.out.at_ 0 0 rfl rfl); (try have y1_ : World.cell? _ ⟨_, 1, none⟩ = some (.slice none 0 0) := HG1.out.at_ 0 1 rfl rfl); (try have y2_ : World.cell? _ ⟨_, 2, none⟩ = some (.slice none 0 0) := HG1.out.at_ 0 2 rfl rfl); (try have y3_ : World.cell? _ ⟨_, 3, none⟩ = some (.bool false) := HG1.out.at_ 0 3 rfl rfl); (try have f0_ := HG1.out.fr_ 0 0 (cs := #[.int .i64 0, .slice none 0 0, .slice none 0 0, .bool false]) rfl); (try have f1_ := HG1.out.fr_ 0 1 (cs := #[.int .i64 0, .slice none 0 0, .slice none 0 0, .bool false]) rfl); (try have f2_ := HG1.out.fr_ 0 2 (cs := #[.int .i64 0, .slice none 0 0, .slice none 0 0, .bool false]) rfl); (try have f3_ := HG1.out.fr_ 0 3 (cs := #[.int .i64 0, .slice none 0 0, .slice none 0 0, .bool false]) rfl))))
      all_goals (go_wp2_with fail; go_meet; first | exact ⟨_, _, _, _, _, rfl, rfl, rfl, rfl, ⟨(((((HG1.out).set 0 (.int .i64 p1)).set 1 (.slice V0 p2.length v0_)).set 2 (.slice V1 p3.length v1_)).set 3 (.bool p4))⟩⟩ | exact ⟨_, _, _, _, _, rfl, rfl, rfl, rfl, ⟨HG1.out.push #[.int .i64 p1, .slice V0 p2.length v0_, .slice V1 p3.length v1_, .bool p4] 24⟩⟩ | exact ⟨_, _, _, _, _, rfl, rfl, rfl, rfl, ⟨(((((HG1.out.push #[.int .i64 0, .slice none 0 0, .slice none 0 0, .bool false] 24).set 0 (.int .i64 p1)).set 1 (.slice V0 p2.length v0_)).set 2 (.slice V1 p3.length v1_)).set 3 (.bool p4))⟩⟩)
    case rest =>
      clear HE
      obtain ⟨g22, V0, v0_, V1, v1_, rfl, rfl, rfl, rfl, HE⟩ := hcut
      have xg18_0 : wc.cell? ⟨g18, 0, none⟩ = some (.int .i64 p1) := HE.out.at_ 1 0 rfl rfl
      have xg18_1 : wc.cell? ⟨g18, 1, none⟩ = some (.slice U0 p2.length u0_) := HE.out.at_ 1 1 rfl rfl
      have xg18_2 : wc.cell? ⟨g18, 2, none⟩ = some (.slice U1 p3.length u1_) := HE.out.at_ 1 2 rfl rfl
      have xg18_3 : wc.cell? ⟨g18, 3, none⟩ = some (.bool p4) := HE.out.at_ 1 3 rfl rfl
      have xg22_0 : wc.cell? ⟨g22, 0, none⟩ = some (.int .i64 p1) := HE.out.at_ 0 0 rfl rfl
      have xg22_1 : wc.cell? ⟨g22, 1, none⟩ = some (.slice V0 p2.length v0_) := HE.out.at_ 0 1 rfl rfl
      have xg22_2 : wc.cell? ⟨g22, 2, none⟩ = some (.slice V1 p3.length v1_) := HE.out.at_ 0 2 rfl rfl
      have xg22_3 : wc.cell? ⟨g22, 3, none⟩ = some (.bool p4) := HE.out.at_ 0 3 rfl rfl
      go_wp2_with fail
      have q := winnowlaw19_same.calls (p2.length + p3.length + 1) p1 _ _ p2 _ _ p3 p4 p1 _ _ p2 _ _ p3 p4 true _ (HE.out.row_ 2 rfl) (HE.out.cap_ 2 rfl).2 (HE.out.row_ 3 rfl) (HE.out.cap_ 3 rfl).2 (HE.out.row_ 0 rfl) (HE.out.cap_ 0 rfl).2 (HE.out.row_ 1 rfl) (HE.out.cap_ 1 rfl).2 (same_book p1 p4 p2 p3 (by have := pLEN.out.1; omega) (by have := pLEN.out.2; omega) _ (by omega) (by omega))
      refine q.mono ?_
      clear xg18_0 xg18_1 xg18_2 xg18_3 xg22_0 xg22_1 xg22_2 xg22_3
      clear q
      rintro e w11 ⟨rfl, hB⟩
      have hE := HE.out.below hB
      clear HE hB
      have HE := Aside0.mk hE
      clear hE
      go_wp2_with fail
      go_ret
      exact ⟨by first | rfl | simp, HE.out.out⟩
/-- The law as a function with a contract: true of whatever is not too long. -/
def winnowlaw19_LedgerBegins.f (a0_0 : Int) (l0_1 l0_2 : List S38) (a0_3 : Bool) (a1_0 : Int) (a1_1 : Int) : Option Bool := if small l0_1 l0_2 then some true else none
theorem winnowlaw19_LedgerBegins.calls (a0_0 : Int) (A0_1 : Option Addr) (c0_1 : Nat) (l0_1 : List S38) (A0_2 : Option Addr) (c0_2 : Nat) (l0_2 : List S38) (a0_3 : Bool) (a1_0 : Int) (a1_1 : Int) (r : Bool) (w : World) (hr0_1 : Kd.C k38 w A0_1 l0_1.length l0_1) (hc0_1 : l0_1.length ≤ c0_1) (hr0_2 : Kd.C k38 w A0_2 l0_2.length l0_2) (hc0_2 : l0_2.length ≤ c0_2) (h : winnowlaw19_LedgerBegins.f a0_0 l0_1 l0_2 a0_3 a1_0 a1_1 = some r) (hTAB_ : Tab w) :
    Calls Tryd.prog 5 #[.agg #[.int .i64 a0_0, .slice A0_1 l0_1.length c0_1, .slice A0_2 l0_2.length c0_2, .bool a0_3], .agg #[.int .i64 a1_0, .int .i64 a1_1]] w fun e w' => e = .returned (.bool r) ∧ Below w.heap.size w w' := by
  unfold winnowlaw19_LedgerBegins.f at h
  by_cases hs : small l0_1 l0_2
  · rw [if_pos hs] at h
    injection h with h
    subst h
    exact LedgerBegins_walk a0_0 A0_1 c0_1 l0_1 A0_2 c0_2 l0_2 a0_3 a1_0 a1_1 w hr0_1 hc0_1 hr0_2 hc0_2 hs.1 hs.2 hTAB_
  · rw [if_neg hs] at h
    cases h
end Go.Proofs.YtponmfnegdlppaaDoor.P

end
