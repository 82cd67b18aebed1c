/- Several texts laid together (wip/tools/merge2.py): Pf38, RunComes, RunRound, RunReady, Pe38, Pf53. -/
import Derived.Test.YtponmfnegdlppaaDoorMP1
import Derived.Test.YtponmfnegdlppaaDoorMP12
import Derived.Test.YtponmfnegdlppaaDoorMP15
import Derived.Test.YtponmfnegdlppaaDoorMP16
section
-- Written by a program of this session (wip/tools/hprint.py, over the kit's printer), not by hand. Lean checks it.
namespace Go.Proofs.YtponmfnegdlppaaDoor.P
open Go.RowKit Go.Proofs.YtponmfnegdlppaaDoorW.PrintWords Go.Proofs.YtponmfnegdlppaaDoorW.PrintLast Go.Proofs.YtponmfnegdlppaaDoorW.PrintMore
attribute [local go_sem] max2_int min2_int max_two min_two max_three min_three max_four min_four
set_option linter.unusedVariables false
set_option linter.unusedSimpArgs false

/-! ### winnowlaw19_held: function 38 -/
def winnowlaw19_held.l0 : Nat → Int → Int → Int → List (S38) → List (S38) → Bool → Option (Int)
  | 0, _, _, _, _, _, _ => none
  | k + 1, x3, x4, x428000, x428001, x428002, x428003 => if x4 < (x428002.length : Int) then (if 0 ≤ x4 then (if ((rd_T38 x428002 x4).f0) = 2 then (winnowlaw19_held.l0 k (wrap64 (x3 + 1)) (wrap64 (x4 + 1)) x428000 x428001 x428002 x428003) else (winnowlaw19_held.l0 k x3 (wrap64 (x4 + 1)) x428000 x428001 x428002 x428003)) else (none)) else (some x3)
def winnowlaw19_held.f (k : Nat) (a0_0 : Int) (l0_1 : List (S38)) (l0_2 : List (S38)) (a0_3 : Bool) : Option (Int) := winnowlaw19_held.l0 k 0 0 a0_0 l0_1 l0_2 a0_3
theorem winnowlaw19_held.mono_l : ∀ k, (∀ y0 y1 y2 y3 y4 y5, LeO (winnowlaw19_held.l0 k y0 y1 y2 y3 y4 y5) (winnowlaw19_held.l0 (k + 1) y0 y1 y2 y3 y4 y5))
  | 0 => fun _ _ _ _ _ _ r h => by simp [winnowlaw19_held.l0] at h
  | k + 1 => by
    have ih0 := winnowlaw19_held.mono_l k
    · intro y0 y1 y2 y3 y4 y5
      unfold winnowlaw19_held.l0
      repeat' first
      | (with_reducible exact ih0 _ _ _ _ _ _)
      | (with_reducible exact LeO.refl _)
      | (with_reducible exact LeO.none _)
      | (with_reducible refine LeO.ite ?_ ?_)
      | (with_reducible refine LeO.bind ?_ (fun _ => ?_))
      | exact ih0 _ _ _ _ _ _
      | exact LeO.none _
      | refine LeO.ite ?_ ?_
      | refine LeO.bind ?_ (fun _ => ?_)
theorem winnowlaw19_held.mono : ∀ a0 a1 a2 a3 k, LeO (winnowlaw19_held.f k a0 a1 a2 a3) (winnowlaw19_held.f (k + 1) a0 a1 a2 a3) := by
  intro a0 a1 a2 a3 k
  have ih0 := winnowlaw19_held.mono_l k
  unfold winnowlaw19_held.f
  repeat' first
      | (with_reducible exact ih0 _ _ _ _ _ _)
      | (with_reducible exact LeO.refl _)
      | (with_reducible exact LeO.none _)
      | (with_reducible refine LeO.ite ?_ ?_)
      | (with_reducible refine LeO.bind ?_ (fun _ => ?_))
      | exact ih0 _ _ _ _ _ _
      | exact LeO.none _
      | refine LeO.ite ?_ ?_
      | refine LeO.bind ?_ (fun _ => ?_)
set_option maxHeartbeats 8000000 in
set_option maxRecDepth 100000 in
theorem winnowlaw19_held.calls (k : Nat) (a0_0 : Int) (A0_1 : Option Addr) (c0_1 : Nat) (l0_1 : List (S38)) (A0_2 : Option Addr) (c0_2 : Nat) (l0_2 : List (S38)) (a0_3 : Bool) (r : Int) (w : World) (hr0_1 : Kd.C k38 w A0_1 l0_1.length l0_1) (hc0_1 : l0_1.length ≤ c0_1) (hr0_2 : Kd.C k38 w A0_2 l0_2.length l0_2) (hc0_2 : l0_2.length ≤ c0_2) (h : winnowlaw19_held.f k a0_0 l0_1 l0_2 a0_3 = some r) :
    Calls Tryd.prog 38 #[.agg #[.int .i64 a0_0, .slice A0_1 l0_1.length c0_1, .slice A0_2 l0_2.length c0_2, .bool a0_3]] w fun e w' => e = .returned (.int .i64 r) ∧ Below w.heap.size w w' := by
  have hu24 := Tryd.underlying24
  have HR0_1 := Aside0.mk hr0_1
  have HC0_1 := Aside0.mk hc0_1
  clear hr0_1 hc0_1
  have HR0_2 := Aside0.mk hr0_2
  have HC0_2 := Aside0.mk hc0_2
  clear hr0_2 hc0_2
  have HB := Aside0.mk (Below.refl w.heap.size w)
  have H : (winnowlaw19_held.l0 k 0 0 a0_0 l0_1 l0_2 a0_3) = some r := h
  clear h
  have H' := Aside0.mk H
  clear H
  go_enter Tryd.func38, Tryd.ntmps38
  go_wp2_with (first | ((with_reducible refine gate_dst (N := 1) rfl ?_); refine box_event ?hg (N := 1) ?hd (cs := #[.int .i64 a0_0, .slice A0_1 l0_1.length c0_1, .slice A0_2 l0_2.length c0_2, .bool a0_3]) (t := 24) ?hr ?_; (case hd => rfl); (case hg => rfl); (case hr => first | (go_simp; done) | (go_simp; rfl)); intro gb427 hg w2 hbox hb; have n0_ := Aside0.mk (below_step (by repeat (first | (with_reducible first | exact HB.out | apply below_alloc | apply pw_below_drewN | apply below_drew1) | exact HB.out)) hb); have n1_ := Aside0.mk (hbox); have n2_ := Aside0.mk ((by rw [hg]; exact (below_size (by repeat (first | (with_reducible first | exact HB.out | apply below_alloc | apply pw_below_drewN | apply below_drew1) | exact HB.out))) : w.heap.size ≤ gb427)); have n3_ := Aside0.mk ((by rw [hg]; exact (below_size (by repeat (first | (with_reducible first | exact HB.out | apply below_alloc | apply pw_below_drewN | apply below_drew1) | exact HB.out))) : w.heap.size ≤ gb427)); clear HB; have HB := n0_; have BK427 := n1_; have GW427 := n2_; have GE427 := n3_; clear n0_ n1_ n2_ n3_; clear hb hbox hg))
  go_loopg [3, 4] k (fun kq v3 v4 w' => ∃ (x3_1 : Int) (x4_1 : Int), v3 = .int .i64 x3_1 ∧ v4 = .int .i64 x4_1 ∧ Aside0 (winnowlaw19_held.l0 kq x3_1 x4_1 a0_0 l0_1 l0_2 a0_3 = some r) ∧ Aside0 (kq ≤ k) ∧ Aside0 (w'.heap[gb427]? = some (.cells #[.int .i64 a0_0, (.slice A0_1 l0_1.length c0_1), (.slice A0_2 l0_2.length c0_2), .bool a0_3] 24 (0, 0))) ∧ Aside0 (Below w.heap.size w w'))
  case atStart => exact ⟨(0), (0), (by first | rfl | (simp; done) | (simp [*]; done)), (by first | rfl | (simp; done) | (simp [*]; done)), H', ⟨Nat.le_refl _⟩, ⟨by (with_reducible repeat (first | refine blk_drewN ?_ _ | refine blk_drew ?_ | refine blk_alloc ?_ _)); exact BK427.out⟩, ⟨by repeat (first | (with_reducible first | exact HB.out | apply below_alloc | apply pw_below_drewN | apply below_drew1 | refine below_set ?_ GE427.out) | exact HB.out)⟩⟩
  case round =>
    clear H'
    try clear p2
    obtain ⟨x3_1, x4_1, rfl, rfl, HA, HK1, BK427, HB⟩ := hrel
    cases gk with
    | zero => exact absurd HA.out (by simp [winnowlaw19_held.l0])
    | succ k1 =>
      have H := HA.out
      clear HA
      simp only [winnowlaw19_held.l0] at H
      by_cases c3 : x4_1 < (l0_2.length : Int)
      · rw [if_pos c3] at H
        have c3b0 : decide (x4_1 < (l0_2.length : Int)) = true := decide_eq_true c3
        clear c3
        by_cases c4 : 0 ≤ x4_1
        · rw [if_pos c4] at H
          have c4b0 : decide (0 ≤ x4_1) = true := decide_eq_true c4
          clear c4
          by_cases c5 : ((rd_T38 l0_2 x4_1).f0) = 2
          · rw [if_pos c5] at H
            have c5b0 : (((rd_T38 l0_2 x4_1).f0) == 2) = true := beq_iff_eq.mpr c5
            have c5b1 : (((rd_T38 l0_2 x4_1).f0) != 2) = false := bne_eq_false_iff_eq.mpr c5
            clear c5
            have H' := Aside0.mk H
            clear H
            have hcz6_0 : wr.cell? ⟨gb427, 0, none⟩ = some (.int .i64 a0_0) := (blk_cell BK427.out 0).trans rfl
            have hcz6_1 : wr.cell? ⟨gb427, 1, none⟩ = some (.slice A0_1 l0_1.length c0_1) := (blk_cell BK427.out 1).trans rfl
            have hcz6_2 : wr.cell? ⟨gb427, 2, none⟩ = some (.slice A0_2 l0_2.length c0_2) := (blk_cell BK427.out 2).trans rfl
            have hcz6_3 : wr.cell? ⟨gb427, 3, none⟩ = some (.bool a0_3) := (blk_cell BK427.out 3).trans rfl
            have hfz6_0 := blk_frozen BK427.out 0
            have hfz6_1 := blk_frozen BK427.out 1
            have hfz6_2 := blk_frozen BK427.out 2
            have hfz6_3 := blk_frozen BK427.out 3
            have p428 : 0 ≤ (x4_1 : Int) := of_decide_eq_true (by first | (with_reducible assumption) | assumption)
            have q428 : x4_1 < (l0_2.length : Int) := of_decide_eq_true (by first | (with_reducible assumption) | assumption)
            obtain ⟨ad428, e428, hx428_0, hx428_1, hx428_2⟩ := at_T38 HR0_2.out x4_1 p428 q428
            cases e428
            replace hx428_0 := (HB.out.cell (World.block_lt_of_cell? w _ hx428_0)).trans hx428_0
            replace hx428_1 := (HB.out.cell (World.block_lt_of_cell? w _ hx428_1)).trans hx428_1
            replace hx428_2 := (HB.out.cell (World.block_lt_of_cell? w _ hx428_2)).trans hx428_2
            replace p428 := eq_true p428
            replace q428 := eq_true q428
            go_wp2
            go_roundg k1
            case measure => have := HK1.out; omega
            case rel => exact ⟨(wrap64 (x3_1 + 1)), (wrap64 (x4_1 + 1)), (by first | rfl | (simp; done) | (simp [*]; done)), (by first | rfl | (simp; done) | (simp [*]; done)), H', ⟨by have := HK1.out; omega⟩, ⟨by (with_reducible repeat (first | refine blk_drewN ?_ _ | refine blk_drew ?_ | refine blk_alloc ?_ _)); exact BK427.out⟩, ⟨by repeat (first | (with_reducible first | exact HB.out | apply below_alloc | apply pw_below_drewN | apply below_drew1 | refine below_set ?_ GE427.out) | exact HB.out)⟩⟩
          · rw [if_neg c5] at H
            have c5b0 : (((rd_T38 l0_2 x4_1).f0) == 2) = false := beq_eq_false_iff_ne.mpr c5
            have c5b1 : (((rd_T38 l0_2 x4_1).f0) != 2) = true := bne_iff_ne.mpr c5
            have H' := Aside0.mk H
            clear H
            have hcz7_0 : wr.cell? ⟨gb427, 0, none⟩ = some (.int .i64 a0_0) := (blk_cell BK427.out 0).trans rfl
            have hcz7_1 : wr.cell? ⟨gb427, 1, none⟩ = some (.slice A0_1 l0_1.length c0_1) := (blk_cell BK427.out 1).trans rfl
            have hcz7_2 : wr.cell? ⟨gb427, 2, none⟩ = some (.slice A0_2 l0_2.length c0_2) := (blk_cell BK427.out 2).trans rfl
            have hcz7_3 : wr.cell? ⟨gb427, 3, none⟩ = some (.bool a0_3) := (blk_cell BK427.out 3).trans rfl
            have hfz7_0 := blk_frozen BK427.out 0
            have hfz7_1 := blk_frozen BK427.out 1
            have hfz7_2 := blk_frozen BK427.out 2
            have hfz7_3 := blk_frozen BK427.out 3
            have p428 : 0 ≤ (x4_1 : Int) := of_decide_eq_true (by first | (with_reducible assumption) | assumption)
            have q428 : x4_1 < (l0_2.length : Int) := of_decide_eq_true (by first | (with_reducible assumption) | assumption)
            obtain ⟨ad428, e428, hx428_0, hx428_1, hx428_2⟩ := at_T38 HR0_2.out x4_1 p428 q428
            cases e428
            replace hx428_0 := (HB.out.cell (World.block_lt_of_cell? w _ hx428_0)).trans hx428_0
            replace hx428_1 := (HB.out.cell (World.block_lt_of_cell? w _ hx428_1)).trans hx428_1
            replace hx428_2 := (HB.out.cell (World.block_lt_of_cell? w _ hx428_2)).trans hx428_2
            replace p428 := eq_true p428
            replace q428 := eq_true q428
            go_wp2
            go_roundg k1
            case measure => have := HK1.out; omega
            case rel => exact ⟨(x3_1), (wrap64 (x4_1 + 1)), (by first | rfl | (simp; done) | (simp [*]; done)), (by first | rfl | (simp; done) | (simp [*]; done)), H', ⟨by have := HK1.out; omega⟩, ⟨by (with_reducible repeat (first | refine blk_drewN ?_ _ | refine blk_drew ?_ | refine blk_alloc ?_ _)); exact BK427.out⟩, ⟨by repeat (first | (with_reducible first | exact HB.out | apply below_alloc | apply pw_below_drewN | apply below_drew1 | refine below_set ?_ GE427.out) | exact HB.out)⟩⟩
        · rw [if_neg c4] at H
          exact absurd H (by simp)
      · rw [if_neg c3] at H
        have c3b0 : decide (x4_1 < (l0_2.length : Int)) = false := decide_eq_false c3
        clear c3
        obtain rfl := Option.some.inj H
        have hcz8_0 : wr.cell? ⟨gb427, 0, none⟩ = some (.int .i64 a0_0) := (blk_cell BK427.out 0).trans rfl
        have hcz8_1 : wr.cell? ⟨gb427, 1, none⟩ = some (.slice A0_1 l0_1.length c0_1) := (blk_cell BK427.out 1).trans rfl
        have hcz8_2 : wr.cell? ⟨gb427, 2, none⟩ = some (.slice A0_2 l0_2.length c0_2) := (blk_cell BK427.out 2).trans rfl
        have hcz8_3 : wr.cell? ⟨gb427, 3, none⟩ = some (.bool a0_3) := (blk_cell BK427.out 3).trans rfl
        have hfz8_0 := blk_frozen BK427.out 0
        have hfz8_1 := blk_frozen BK427.out 1
        have hfz8_2 := blk_frozen BK427.out 2
        have hfz8_3 := blk_frozen BK427.out 3
        go_wp2
        go_ret
        exact ⟨by first | rfl | (simp [errW_none, errW_some] <;> rfl) | (simp [*, errW_none, errW_some] <;> rfl), by repeat (first | (with_reducible first | exact HB.out | apply below_alloc | apply pw_below_drewN | apply below_drew1 | refine below_set ?_ GE427.out) | exact HB.out)⟩

end Go.Proofs.YtponmfnegdlppaaDoor.P

end
section
/- A run in which each attempt that is begun ends: one round of it, in plain lists. -/
namespace Go.Proofs.YtponmfnegdlppaaDoor.P
open Go.RowKit Go.Proofs.YtponmfnegdlppaaDoorW.PrintWords Go.Proofs.YtponmfnegdlppaaDoorW.PrintLast Go.Proofs.YtponmfnegdlppaaDoorW.PrintMore
set_option linter.unusedVariables false

def hd (x : S38) : Int := if x.f0 = 2 then 1 else 0
def nd (x : S38) : Int := if x.f0 = 3 then 0 else 1
theorem sumL_app (f : S38 → Int) (a b : List S38) : sumL f (a ++ b) = sumL f a + sumL f b := by unfold sumL; rw [List.map_append, List.sum_append]
abbrev isTask (l0 l1 : List S38) (k b : Int) : Prop := (k = 0 ∧ ∃ n : Nat, b = n ∧ n < l0.length) ∨ (k = 1 ∧ ∃ n : Nat, b = n ∧ n < l1.length)
/-- a task's state gives way, in two lists -/
def put0 (l0 : List S38) (k b : Int) (x : S38) : List S38 := if k = 0 then l0.set b.toNat x else l0
def put1 (l1 : List S38) (k b : Int) (x : S38) : List S38 := if k = 0 then l1 else l1.set b.toNat x
theorem put_sum (f : S38 → Int) {l0 l1 : List S38} {k b : Int} (h : isTask l0 l1 k b) (x : S38) : sumL f (put0 l0 k b x ++ put1 l1 k b x) = sumL f (l0 ++ l1) - f (stP l0 l1 k b) + f x := by
  obtain ⟨hi, hg⟩ := place_get (t := 0) rfl h
  unfold put0 put1
  rw [place_set rfl h x, sumL_set _ _ _ hi, hg]
theorem put_len {l0 l1 : List S38} {k b : Int} (x : S38) : (put0 l0 k b x).length = l0.length ∧ (put1 l1 k b x).length = l1.length := by
  unfold put0 put1
  constructor
  · split
    · rw [List.length_set]
    · rfl
  · split
    · rfl
    · rw [List.length_set]
theorem put_task {l0 l1 : List S38} {k b : Int} (h : isTask l0 l1 k b) (x : S38) (k' b' : Int) (h' : isTask l0 l1 k' b') : isTask (put0 l0 k b x) (put1 l1 k b x) k' b' := by
  obtain ⟨e0, e1⟩ := put_len (l0 := l0) (l1 := l1) (k := k) (b := b) x
  unfold isTask
  rw [e0, e1]
  exact h'
theorem put_get {l0 l1 : List S38} {k b : Int} (h : isTask l0 l1 k b) (x : S38) : stP (put0 l0 k b x) (put1 l1 k b x) k b = x := by
  unfold put0 put1 stP
  rcases h with ⟨rfl, n, rfl, hn⟩ | ⟨rfl, n, rfl, hn⟩
  · rw [if_pos rfl, if_pos rfl, Int.toNat_natCast, rd38 _ n (by rw [List.length_set]; exact hn), List.getElem_set_self]
  · rw [if_neg (show ¬ (1 : Int) = 0 by decide), if_neg (show ¬ (1 : Int) = 0 by decide), Int.toNat_natCast, rd38 _ n (by rw [List.length_set]; exact hn), List.getElem_set_self]
theorem put_mem {l0 l1 : List S38} {k b : Int} (x : S38) (P : S38 → Prop) (h : ∀ y ∈ l0 ++ l1, P y) (hx : P x) : ∀ y ∈ put0 l0 k b x ++ put1 l1 k b x, P y := by
  intro y m
  unfold put0 put1 at m
  rcases List.mem_append.1 m with m | m
  · by_cases e : k = 0
    · rw [if_pos e] at m
      rcases List.mem_or_eq_of_mem_set m with m | rfl
      · exact h y (List.mem_append_left _ m)
      · exact hx
    · rw [if_neg e] at m
      exact h y (List.mem_append_left _ m)
  · by_cases e : k = 0
    · rw [if_pos e] at m
      exact h y (List.mem_append_right _ m)
    · rw [if_neg e] at m
      rcases List.mem_or_eq_of_mem_set m with m | rfl
      · exact h y (List.mem_append_right _ m)
      · exact hx
theorem put_put {l0 l1 : List S38} {k b : Int} (x y : S38) : put0 (put0 l0 k b x) k b y = put0 l0 k b y ∧ put1 (put1 l1 k b x) k b y = put1 l1 k b y := by
  unfold put0 put1
  by_cases e : k = 0
  · simp only [if_pos e, List.set_set, and_self]
  · simp only [if_neg e, List.set_set, and_self]
theorem task_ok {l0 l1 : List S38} {k b : Int} (h : isTask l0 l1 k b) : okT l0.length l1.length ⟨k, b⟩ = true := by
  unfold okT roomT
  rcases h with ⟨rfl, n, rfl, hn⟩ | ⟨rfl, n, rfl, hn⟩
  · simp; omega
  · simp; omega
theorem known_of {t : Int} {l0 l1 : List S38} {fl : Bool} {k b : Int} (hc : checkP t l0 l1 fl = 0) (h : isTask l0 l1 k b) : knownP t l0 l1 fl [⟨k, b⟩] = 0 := by
  unfold knownP
  rw [if_pos hc]
  simp only [scanT]
  rw [if_pos (task_ok h)]
theorem known_of2 {t : Int} {l0 l1 : List S38} {fl : Bool} {k b k' b' : Int} (hc : checkP t l0 l1 fl = 0) (h : isTask l0 l1 k b) (h' : isTask l0 l1 k' b') : knownP t l0 l1 fl [⟨k, b⟩, ⟨k', b'⟩] = 0 := by
  unfold knownP
  rw [if_pos hc]
  simp only [scanT]
  rw [if_pos (task_ok h), if_pos (task_ok h')]
theorem begin_of {t : Int} {l0 l1 : List S38} {k b : Int} (hc : checkP t l0 l1 false = 0) (h : isTask l0 l1 k b) (hs : (stP l0 l1 k b).f0 = 0 ∨ (stP l0 l1 k b).f0 = 2) (ha : k = 1 → allP l0 = true) :
    ∃ (a : Int) (fr : Bool), (((stP l0 l1 k b).f0 = 0 ∧ a = (stP l0 l1 k b).f1 + 1) ∨ ((stP l0 l1 k b).f0 = 2 ∧ a = (stP l0 l1 k b).f1)) ∧
      beginP t l0 l1 false k b = (t, put0 l0 k b ⟨1, a, (stP l0 l1 k b).f2⟩, put1 l1 k b ⟨1, a, (stP l0 l1 k b).f2⟩, false, a, fr, 0) := by
  unfold beginP beginS put0 put1
  rw [if_pos (known_of hc h), if_neg (by
    rintro (q | q | q)
    · cases q
    · omega
    · rw [ha q.1] at q; exact absurd q.2 (by decide))]
  by_cases h0 : (stP l0 l1 k b).f0 = 0
  · refine ⟨_, true, .inl ⟨h0, rfl⟩, ?_⟩
    rw [if_pos h0]
    by_cases e : k = 0
    · simp only [if_pos e]
    · simp only [if_neg e]
  · refine ⟨_, false, .inr ⟨hs.resolve_left h0, rfl⟩, ?_⟩
    rw [if_neg h0]
    by_cases e : k = 0
    · simp only [if_pos e]
    · simp only [if_neg e]
theorem end_of {t : Int} {l0 l1 : List S38} {k b : Int} {u : S38 → S38} {uf : S38 → Bool} (hc : checkP t l0 l1 false = 0) (h : isTask l0 l1 k b) (hs : (stP l0 l1 k b).f0 = 1) :
    endP t l0 l1 false k b u uf = (t, put0 l0 k b (u (stP l0 l1 k b)), put1 l1 k b (u (stP l0 l1 k b)), uf (stP l0 l1 k b), 0) := by
  unfold endP put0 put1
  rw [if_pos (known_of hc h), if_neg (by
    rintro (q | q)
    · cases q
    · exact q hs)]
  by_cases e : k = 0
  · simp only [if_pos e]
  · simp only [if_neg e]
/-- how many reduce tasks are held -/
theorem held_loop (t : Int) (l0 l1 : List S38) (fl : Bool) (hl : l1.length ≤ 1000) : ∀ (d k i : Nat) (n : Int), 0 ≤ n → n ≤ i → i + d = l1.length → d < k → winnowlaw19_held.l0 k n (i : Int) t l0 l1 fl = some (n + sumL hd (l1.drop i)) := by
  intro d
  induction d with
  | zero =>
    intro k i n hn hn2 hi hk
    obtain ⟨k, rfl⟩ : ∃ m, k = m + 1 := ⟨k - 1, by omega⟩
    rw [winnowlaw19_held.l0, if_neg (by omega), List.drop_eq_nil_of_le (by omega)]
    unfold sumL
    rw [List.map_nil, List.sum_nil, Int.add_zero]
  | succ d ih =>
    intro k i n hn hn2 hi hk
    obtain ⟨k, rfl⟩ : ∃ m, k = m + 1 := ⟨k - 1, by omega⟩
    rw [winnowlaw19_held.l0, if_pos (by omega), if_pos (by omega), drop38 l1 i (by omega), show wrap64 ((i : Int) + 1) = ((i + 1 : Nat) : Int) by unfold wrap64; omega]
    have e : ∀ (x : S38) (l : List S38), sumL hd (x :: l) = hd x + sumL hd l := fun x l => by unfold sumL; rw [List.map_cons, List.sum_cons]
    by_cases h : (rd_T38 l1 (i : Int)).f0 = 2
    · rw [if_pos h, show wrap64 (n + 1) = n + 1 by unfold wrap64; omega]
      rw [ih k (i + 1) (n + 1) (by omega) (by omega) (by omega) (by omega), e]
      unfold hd
      rw [if_pos h, Int.add_assoc]
    · rw [if_neg h, ih k (i + 1) n hn (by omega) (by omega) (by omega), e]
      unfold hd
      rw [if_neg h, Int.zero_add]
end Go.Proofs.YtponmfnegdlppaaDoor.P

end
section
/- One round of a run in which each attempt that is begun ends. -/
namespace Go.Proofs.YtponmfnegdlppaaDoor.P
open Go.RowKit Go.Proofs.YtponmfnegdlppaaDoorW.PrintWords Go.Proofs.YtponmfnegdlppaaDoorW.PrintLast Go.Proofs.YtponmfnegdlppaaDoorW.PrintMore
set_option linter.unusedVariables false

/-- between two rounds -/
structure RUN (t : Int) (l0 l1 : List S38) (m r : Nat) (s c i bl : Int) : Prop where
  inv : ∃ bg ch, INV t l0 l1 false m r bg ch s c
  rest : ∀ x ∈ l0 ++ l1, x.f0 ≠ 1
  count : i + sumL hd (l0 ++ l1) = s + bl
  b0 : 0 ≤ bl
  b1 : bl ≤ c
theorem held_eq {t : Int} {l0 l1 : List S38} {fl : Bool} {m r : Nat} {bg ch : Nat → Bool} {s c : Int} (h : INV t l0 l1 fl m r bg ch s c) (hr : r ≤ 6) (k : Nat) (hk : 6 < k) : winnowlaw19_held.f k t l0 l1 fl = some (sumL hd (l0 ++ l1)) := by
  unfold winnowlaw19_held.f
  have hn := h.n1
  have e := held_loop t l0 l1 fl (by omega) l1.length k 0 0 (by omega) (by omega) (by omega) (by omega)
  rw [List.drop_zero, Int.zero_add] at e
  have hz : sumL hd l0 = 0 := by
    obtain ⟨q1, q2, q3, q4, q5, q6, q7, q8, q9⟩ := (check_iff _ _ _ _).1 h.check
    have := sumL_le hd 0 (by omega) l0 (fun x mx => by
      obtain ⟨g1, g2, _⟩ := good_state (q6 x mx)
      unfold hd
      rw [if_neg (g2 rfl)]
      omega)
    omega
  rw [sumL_app, hz, Int.zero_add]
  exact e
/-- a new book that nobody has touched -/
theorem RUN.start {t : Int} {m r : Nat} (h1 : 1 ≤ t) (h2 : t ≤ 16) (hm : m ≤ 256) (hr : 1 ≤ r) (hr2 : r ≤ 65535) : RUN t (List.replicate m z38) (List.replicate r z38) m r 0 0 0 0 := by
  refine ⟨⟨_, _, INV.start h1 h2 hm hr hr2⟩, fun x mx => ?_, ?_, by omega, by omega⟩
  · rcases List.mem_append.1 mx with mx | mx <;> (rw [List.eq_of_mem_replicate mx]; decide)
  · have : ∀ n, sumL hd (List.replicate n z38) = 0 := fun n => by
      induction n with
      | zero => rfl
      | succ n ih => unfold sumL at ih ⊢; rw [List.replicate_succ, List.map_cons, List.sum_cons, ih]; rfl
    rw [sumL_app, this, this]
    rfl
theorem small_of {l0 l1 : List S38} {m r : Nat} (h0 : l0.length = m) (h1 : l1.length = r) (hm : m ≤ 6) (hr : r ≤ 6) : small l0 l1 := ⟨by omega, by omega⟩
set_option maxHeartbeats 1000000 in
theorem RUN.round {t : Int} {l0 l1 : List S38} {m r : Nat} {s c i bl k b : Int} (h : RUN t l0 l1 m r s c i bl) (hm : m ≤ 6) (hr : r ≤ 6) (hT : isTask l0 l1 k b) (hs : (stP l0 l1 k b).f0 = 0 ∨ (stP l0 l1 k b).f0 = 2) (ha : k = 1 → allP l0 = true) (ans : Int) (hans : 0 ≤ ans ∧ ans ≤ 100) :
    ∃ (c0 c1 d0 d1 : List S38) (a : Int) (fr : Bool) (s' c' bl' : Int) (bg' ch' : Nat → Bool), beginP t l0 l1 false k b = (t, c0, c1, false, a, fr, 0) ∧ INV t c0 c1 false m r bg' ch' (if fr = true then s + 1 else s) c ∧
      (∀ K, 10 ≤ K → winnowlaw19_ended.f K t c0 c1 false k b ans t = some (t, d0, d1, false, 0)) ∧ RUN t d0 d1 m r s' c' (i + 1) bl' ∧ bl' = (if sumL hd c1 < sumL hd d1 then bl + 1 else bl) ∧ c ≤ c' ∧
      13 * (200 - c') + sumL nd (d0 ++ d1) < 13 * (200 - c) + sumL nd (l0 ++ l1) := by
  have HT := Aside0.mk hT
  obtain ⟨bg, ch, hI⟩ := h.inv
  obtain ⟨y, hy, g1, g3, g4, g5, g6, g7⟩ := hI.task hT
  obtain ⟨a, fr, hcase, hbg⟩ := begin_of hI.check hT hs ha
  clear hT
  rw [← hy] at hs hcase hbg
  obtain ⟨-, n, hn, hn1, hn2, -, -, -, hJ, -⟩ := hI.begin hbg
  have hsm := hI.small hm hr
  have hlen := put_len (l0 := l0) (l1 := l1) (k := k) (b := b) ⟨1, a, y.f2⟩
  have HT' := Aside0.mk (put_task HT.out ⟨1, a, y.f2⟩ k b HT.out)
  have hst := put_get HT.out ⟨1, a, y.f2⟩
  have hsum := fun f => put_sum f HT.out ⟨1, a, y.f2⟩
  have hpp := fun z => put_put (l0 := l0) (l1 := l1) (k := k) (b := b) ⟨1, a, y.f2⟩ z
  obtain ⟨c0, hc0⟩ : ∃ x, put0 l0 k b ⟨1, a, y.f2⟩ = x := ⟨_, rfl⟩
  obtain ⟨c1, hc1⟩ : ∃ x, put1 l1 k b ⟨1, a, y.f2⟩ = x := ⟨_, rfl⟩
  rw [hc0, hc1] at hbg hJ HT' hst hlen
  simp only [hc0, hc1] at hsum hpp
  have hfr : (if fr = true then s + 1 else s) = s - y.f1 + a := by
    have e := hJ.starts
    rw [hsum, ← hI.starts, ← hy] at e
    exact e
  have hsm' := hJ.small hm hr
  have hnd_le : ∀ x : S38, 0 ≤ nd x ∧ nd x ≤ 1 := fun x => by unfold nd; split <;> omega
  have hndy : nd y = 1 := by unfold nd; rw [if_neg (by omega)]
  have hrest : ∀ z : S38, z.f0 ≠ 1 → ∀ x ∈ put0 l0 k b z ++ put1 l1 k b z, x.f0 ≠ 1 := fun z hz => put_mem z (fun x => x.f0 ≠ 1) h.rest hz
  have hcount := h.count
  have hai : (y.f0 = 0 ∧ a = y.f1 + 1 ∧ hd y = 0) ∨ (y.f0 = 2 ∧ a = y.f1 ∧ hd y = 1) := by
    rcases hcase with ⟨z, e⟩ | ⟨z, e⟩
    · exact .inl ⟨z, e, by unfold hd; rw [if_neg (by omega)]⟩
    · exact .inr ⟨z, e, by unfold hd; rw [if_pos z]⟩
  have hB1 := h.b1
  have hB0 := h.b0
  -- what is held, in the second list alone
  have hh1 : ∀ z : S38, sumL hd (put1 l1 k b z) = sumL hd c1 + (if k = 0 then 0 else hd z) := fun z => by
    rw [← hc1]; unfold put1
    rcases HT.out with ⟨rfl, n', rfl, hn'⟩ | ⟨rfl, n', rfl, hn'⟩
    · rw [if_pos rfl, if_pos rfl, if_pos rfl, Int.add_zero]
    · rw [if_neg (show ¬ (1 : Int) = 0 by decide), if_neg (show ¬ (1 : Int) = 0 by decide), if_neg (show ¬ (1 : Int) = 0 by decide), Int.toNat_natCast, sumL_set _ _ _ hn', sumL_set _ _ _ hn', show hd ⟨1, a, y.f2⟩ = 0 from rfl]
      omega
  refine ⟨c0, c1, ?_⟩
  -- done
  have DONE : ∃ (d0 d1 : List S38) (s' c' bl' : Int), doneP t c0 c1 false k b = (t, d0, d1, false, 0) ∧ RUN t d0 d1 m r s' c' (i + 1) bl' ∧ bl' = (if sumL hd c1 < sumL hd d1 then bl + 1 else bl) ∧ c ≤ c' ∧ 13 * (200 - c') + sumL nd (d0 ++ d1) < 13 * (200 - c) + sumL nd (l0 ++ l1) := by
    have e := end_of (u := fun s => ⟨3, s.f1, s.f2⟩) (uf := fun _ => false) hJ.check HT'.out (by rw [hst])
    obtain ⟨-, -, hK, -⟩ := hJ.still (.inl rfl) e
    rw [hst, (hpp _).1, (hpp _).2] at e hK
    dsimp only at e hK
    refine ⟨_, _, _, _, bl, e, ⟨⟨_, _, hK⟩, hrest _ (by show ¬ (3 : Int) = 1; decide), ?_, hB0, hB1⟩, ?_, Int.le_refl _, ?_⟩
    · rw [put_sum hd HT.out, ← hy, show hd ⟨3, a, y.f2⟩ = 0 from rfl, hfr]
      omega
    · rw [hh1, show hd ⟨3, a, y.f2⟩ = 0 from rfl, ite_self, Int.add_zero, if_neg (Int.lt_irrefl _)]
    · rw [put_sum nd HT.out, ← hy, hndy, show nd ⟨3, a, y.f2⟩ = 0 from rfl]
      omega
  have HDONE := Aside0.mk DONE
  clear DONE
  -- stopped
  have DIED : y.f2 + 1 < t → ∃ (d0 d1 : List S38) (s' c' bl' : Int), diedP t c0 c1 false k b = (t, d0, d1, false, 0) ∧ RUN t d0 d1 m r s' c' (i + 1) bl' ∧ bl' = (if sumL hd c1 < sumL hd d1 then bl + 1 else bl) ∧ c ≤ c' ∧ 13 * (200 - c') + sumL nd (d0 ++ d1) < 13 * (200 - c) + sumL nd (l0 ++ l1) := by
    intro hlt
    have e := end_of (u := fun s => ⟨0, s.f1, s.f2 + 1⟩) (uf := fun s => false || decide (s.f2 + 1 = t)) hJ.check HT'.out (by rw [hst])
    obtain ⟨n', -, -, -, -, -, hK⟩ := hJ.charge HT'.out (.inl (by rw [hst]))
    rw [hst, (hpp _).1, (hpp _).2] at e
    rw [hst] at hK
    have hK' : ∃ bg' ch', INV t (put0 l0 k b ⟨0, a, y.f2 + 1⟩) (put1 l1 k b ⟨0, a, y.f2 + 1⟩) (decide (y.f2 + 1 = t)) m r bg' ch' (if fr = true then s + 1 else s) (c + 1) := by
      rw [← (hpp _).1, ← (hpp _).2]
      exact ⟨_, _, hK⟩
    dsimp only at e
    rw [decide_eq_false (show ¬ y.f2 + 1 = t by omega)] at hK' e
    refine ⟨_, _, _, _, bl, e, ⟨hK', hrest _ (by show ¬ (0 : Int) = 1; decide), ?_, hB0, by omega⟩, ?_, by omega, ?_⟩
    · rw [put_sum hd HT.out, ← hy, show hd ⟨0, a, y.f2 + 1⟩ = 0 from rfl, hfr]
      omega
    · rw [hh1, show hd ⟨0, a, y.f2 + 1⟩ = 0 from rfl, ite_self, Int.add_zero, if_neg (Int.lt_irrefl _)]
    · rw [put_sum nd HT.out, ← hy, hndy, show nd ⟨0, a, y.f2 + 1⟩ = 1 from rfl]
      omega
  have HDIED := Aside0.mk DIED
  clear DIED
  -- a map task is blamed
  have BLAMED : ∀ j : Nat, k ≠ 0 → j < l0.length → (rd_T38 c0 (j : Int)).f2 + 1 < t → ∃ (d0 d1 : List S38) (s' c' bl' : Int), (∃ g, blameP t c0 c1 false b j (rd_T38 c0 (j : Int)).f1 = (t, d0, d1, false, g, 0)) ∧ RUN t d0 d1 m r s' c' (i + 1) bl' ∧ bl' = (if sumL hd c1 < sumL hd d1 then bl + 1 else bl) ∧ c ≤ c' ∧ 13 * (200 - c') + sumL nd (d0 ++ d1) < 13 * (200 - c) + sumL nd (l0 ++ l1) := by
    intro j hk0 hj hlt
    obtain ⟨rt, hk1, hb, hrt⟩ : ∃ rt : Nat, k = 1 ∧ b = rt ∧ rt < l1.length := by
      rcases HT.out with ⟨e, _⟩ | ⟨e, n', e2, hn'⟩
      · exact absurd e hk0
      · exact ⟨n', e, e2, hn'⟩
    have hall := ha hk1
    have hc0l : c0 = l0 := by rw [← hc0]; unfold put0; rw [if_neg hk0]
    obtain ⟨z, hz⟩ : ∃ z, rd_T38 c0 (j : Int) = z := ⟨_, rfl⟩
    have hzj : z = l0[j] := by rw [← hz, hc0l, rd38 l0 j hj]
    have hz3 : z.f0 = 3 := by
      unfold allP at hall
      have := List.all_eq_true.1 hall _ (List.getElem_mem hj)
      rw [hzj]
      exact of_decide_eq_true this
    obtain ⟨q1, q2, q3, q4, q5, q6, q7, q8, q9⟩ := (check_iff _ _ _ _).1 hI.check
    obtain ⟨z1, z2, z3, z4, z5, z6, z7⟩ := good_state (q6 z (by rw [hzj]; exact List.getElem_mem hj))
    have z4' := z4 (by omega)
    have HTj : Aside0 (isTask c0 c1 0 (j : Int)) := ⟨.inl ⟨rfl, j, rfl, by rw [hlen.1]; exact hj⟩⟩
    have e := end_of (u := fun s => ⟨2, s.f1, s.f2⟩) (uf := fun _ => false) hJ.check HT'.out (by rw [hst])
    rw [hst, (hpp _).1, (hpp _).2] at e
    dsimp only at e
    have hold : holdP t c0 c1 false b = (t, put0 l0 k b ⟨2, a, y.f2⟩, put1 l1 k b ⟨2, a, y.f2⟩, false, 0) := by unfold holdP; rw [← hk1]; exact e
    have hp0 : put0 l0 k b ⟨2, a, y.f2⟩ = l0 := by unfold put0; rw [if_neg hk0]
    rw [hz] at hlt ⊢
    have hbl : blameP t c0 c1 false b j z.f1 = (t, l0.set j ⟨0, z.f1, z.f2 + 1⟩, put1 l1 k b ⟨2, a, y.f2⟩, false, true, 0) := by
      unfold blameP chargeP
      rw [if_pos (by have := known_of2 hJ.check HT'.out HTj.out; rw [hk1] at this; exact this), hz, if_neg (by omega), hold, if_pos rfl, if_pos ⟨hz3, rfl⟩]
      dsimp only
      rw [hp0, Int.toNat_natCast, decide_eq_false (show ¬ z.f2 + 1 = t by omega)]
      rfl
    have hbl2 := hbl
    rw [hb] at hbl2
    obtain ⟨-, -, -, hg⟩ := hJ.blame hbl2 0 0
    obtain ⟨n', -, -, -, -, -, hK⟩ := hg rfl
    have hs : ∀ f : S38 → Int, sumL f (l0.set j ⟨0, z.f1, z.f2 + 1⟩ ++ put1 l1 k b ⟨2, a, y.f2⟩) = sumL f (l0 ++ l1) - f y + f ⟨2, a, y.f2⟩ - f z + f ⟨0, z.f1, z.f2 + 1⟩ := fun f => by
      have e1 := put_sum f HT.out ⟨2, a, y.f2⟩
      rw [hp0, ← hy, sumL_app] at e1
      rw [sumL_app, sumL_set _ _ _ hj, ← hzj]
      omega
    have hb' : (b : Int) = (rt : Int) := hb
    refine ⟨_, _, _, _, bl + 1, ⟨_, hbl⟩, ⟨⟨_, _, by rw [hb]; exact hK⟩, ?_, ?_, by omega, by omega⟩, ?_, by omega, ?_⟩
    · intro x mx
      rcases List.mem_append.1 mx with mx | mx
      · rcases List.mem_or_eq_of_mem_set mx with mx | rfl
        · exact h.rest x (List.mem_append_left _ mx)
        · show ¬ (0 : Int) = 1; decide
      · exact hrest ⟨2, a, y.f2⟩ (by show ¬ (2 : Int) = 1; decide) x (List.mem_append_right _ mx)
    · rw [hs, show hd ⟨2, a, y.f2⟩ = 1 from rfl, show hd ⟨0, z.f1, z.f2 + 1⟩ = 0 from rfl, hfr, show hd z = 0 by unfold hd; rw [if_neg (by omega)]]
      omega
    · rw [hh1, if_neg hk0, show hd ⟨2, a, y.f2⟩ = 1 from rfl, if_pos (by omega)]
    · rw [hs, hndy, show nd ⟨2, a, y.f2⟩ = 1 from rfl, show nd ⟨0, z.f1, z.f2 + 1⟩ = 1 from rfl, show nd z = 0 by unfold nd; rw [if_pos hz3]]
      omega
  have HBLAMED := Aside0.mk BLAMED
  clear BLAMED
  have hsmall : small c0 c1 := small_of hJ.n0 hJ.n1 hm hr
  have J0t : ∀ (K : Nat) (d0 d1 : List S38), 1 ≤ K → diedP t c0 c1 false k b = (t, d0, d1, false, 0) → winnowlaw19_ended.j0 K true t c0 c1 false k b = some (t, d0, d1, false, 0) := fun K d0 d1 hK e => by
    obtain ⟨K, rfl⟩ : ∃ q, K = q + 1 := ⟨K - 1, by omega⟩
    rw [winnowlaw19_ended.j0, if_pos rfl]
    unfold ledger_Died.f
    rw [if_pos hsmall, e]
    rfl
  have J0f : ∀ (K : Nat) (d0 d1 : List S38), 1 ≤ K → doneP t c0 c1 false k b = (t, d0, d1, false, 0) → winnowlaw19_ended.j0 K false t c0 c1 false k b = some (t, d0, d1, false, 0) := fun K d0 d1 hK e => by
    obtain ⟨K, rfl⟩ : ∃ q, K = q + 1 := ⟨K - 1, by omega⟩
    rw [winnowlaw19_ended.j0, if_neg (by decide)]
    unfold ledger_Done.f
    rw [if_pos hsmall, e]
    rfl
  have J1t : ∀ (K : Nat) (d0 d1 : List S38), 1 ≤ K → diedP t c0 c1 false k b = (t, d0, d1, false, 0) → winnowlaw19_ended.j1 K ans t true t c0 c1 false k b = some (t, d0, d1, false, 0) := fun K d0 d1 hK e => by
    obtain ⟨K, rfl⟩ : ∃ q, K = q + 1 := ⟨K - 1, by omega⟩
    rw [winnowlaw19_ended.j1, if_pos rfl]
    unfold ledger_Died.f
    rw [if_pos hsmall, e]
    rfl
  have J2f : ∀ (K : Nat) (d0 d1 : List S38), 1 ≤ K → doneP t c0 c1 false k b = (t, d0, d1, false, 0) → winnowlaw19_ended.j2 K ans false t c0 c1 false k b = some (t, d0, d1, false, 0) := fun K d0 d1 hK e => by
    obtain ⟨K, rfl⟩ : ∃ q, K = q + 1 := ⟨K - 1, by omega⟩
    rw [winnowlaw19_ended.j2, if_neg (by decide)]
    unfold ledger_Done.f
    rw [if_pos hsmall, e]
    rfl
  obtain ⟨b', hb', hbl⟩ : ∃ b' : Nat, b = b' ∧ (k = 0 → b' < c0.length) ∧ (k ≠ 0 → b' < c1.length) := by
    rcases HT'.out with ⟨rfl, n', rfl, hn'⟩ | ⟨rfl, n', rfl, hn'⟩
    · exact ⟨n', rfl, fun _ => hn', fun q => absurd rfl q⟩
    · exact ⟨n', rfl, fun q => absurd q (by decide), fun _ => hn'⟩
  have hw2 : wrap64 (y.f2 + 1) = y.f2 + 1 := w64 (by omega) (by omega)
  by_cases hk : k = 0
  · have hrd : rd_T38 c0 b = ⟨1, a, y.f2⟩ := by have q := hst; unfold stP at q; rw [if_pos hk] at q; exact q
    have hx := hbl.1 hk
    by_cases h1 : ans = 1 ∧ y.f2 + 1 < t
    · obtain ⟨d0, d1, s', c', bl', e, R, B, C, M⟩ := HDIED.out h1.2
      refine ⟨d0, d1, a, fr, s', c', bl', _, _, hbg, hJ, fun K hK => ?_, R, B, C, M⟩
      unfold winnowlaw19_ended.f
      rw [if_pos hk, if_pos h1.1, if_pos (by omega), if_pos (by omega), hrd]
      dsimp only
      rw [hw2, decide_eq_true h1.2]
      exact J0t K d0 d1 (by omega) e
    · obtain ⟨d0, d1, s', c', bl', e, R, B, C, M⟩ := HDONE.out
      refine ⟨d0, d1, a, fr, s', c', bl', _, _, hbg, hJ, fun K hK => ?_, R, B, C, M⟩
      unfold winnowlaw19_ended.f
      rw [if_pos hk]
      by_cases h2 : ans = 1
      · rw [if_pos h2, if_pos (by omega), if_pos (by omega), hrd]
        dsimp only
        rw [hw2, decide_eq_false (fun q => h1 ⟨h2, q⟩)]
        exact J0f K d0 d1 (by omega) e
      · rw [if_neg h2]
        exact J0f K d0 d1 (by omega) e
  · have hrd : rd_T38 c1 b = ⟨1, a, y.f2⟩ := by have q := hst; unfold stP at q; rw [if_neg hk] at q; exact q
    have hx := hbl.2 hk
    by_cases h1 : ans = 1 ∧ y.f2 + 1 < t
    · obtain ⟨d0, d1, s', c', bl', e, R, B, C, M⟩ := HDIED.out h1.2
      refine ⟨d0, d1, a, fr, s', c', bl', _, _, hbg, hJ, fun K hK => ?_, R, B, C, M⟩
      unfold winnowlaw19_ended.f
      rw [if_neg hk, if_pos h1.1, if_pos (by omega), if_pos (by omega), hrd]
      dsimp only
      rw [hw2, decide_eq_true h1.2]
      exact J1t K d0 d1 (by omega) e
    · -- the rest, behind the second test
      have hwa : wrap64 (ans - 2) = ans - 2 := w64 (by omega) (by omega)
      have REST : ∃ (d0 d1 : List S38) (s' c' bl' : Int), (∀ K, 5 ≤ K → winnowlaw19_ended.j1 K ans t false t c0 c1 false k b = some (t, d0, d1, false, 0)) ∧ RUN t d0 d1 m r s' c' (i + 1) bl' ∧ bl' = (if sumL hd c1 < sumL hd d1 then bl + 1 else bl) ∧ c ≤ c' ∧ 13 * (200 - c') + sumL nd (d0 ++ d1) < 13 * (200 - c) + sumL nd (l0 ++ l1) := by
        by_cases h3 : ans ≥ 2 ∧ ans - 2 < (c0.length : Int) ∧ (rd_T38 c0 (ans - 2)).f2 + 1 < t
        · obtain ⟨j, hj⟩ : ∃ j : Nat, ans - 2 = j := ⟨(ans - 2).toNat, by omega⟩
          have h32 := h3.2
          rw [hj] at h32
          obtain ⟨d0, d1, s', c', bl', ⟨g, e⟩, R, B, C, M⟩ := HBLAMED.out j hk (by rw [← hlen.1]; omega) h32.2
          have hz : 0 ≤ (rd_T38 c0 (j : Int)).f2 := by
            obtain ⟨q1, q2, q3, q4, q5, q6, q7, q8, q9⟩ := (check_iff _ _ _ _).1 hJ.check
            obtain ⟨z1, z2, z3, z4, z5, z6, z7⟩ := good_state (q6 _ (rd_mem (l := c0) (n := j) (by omega)))
            exact z5
          refine ⟨d0, d1, s', c', bl', fun K hK => ?_, R, B, C, M⟩
          obtain ⟨K, rfl⟩ : ∃ q, K = q + 1 + 1 := ⟨K - 2, by omega⟩
          rw [winnowlaw19_ended.j1, if_neg (by decide), if_pos h3.1, hwa, hj, if_pos h32.1, if_pos (by omega), w64 (n := (rd_T38 c0 (j : Int)).f2 + 1) (by omega) (by omega), decide_eq_true h32.2, winnowlaw19_ended.j2, if_pos rfl, hwa, hj, if_pos (by omega), if_pos h32.1]
          unfold ledger_Blame.f
          rw [if_pos hsmall, e]
          rfl
        · obtain ⟨d0, d1, s', c', bl', e, R, B, C, M⟩ := HDONE.out
          refine ⟨d0, d1, s', c', bl', fun K hK => ?_, R, B, C, M⟩
          obtain ⟨K, rfl⟩ : ∃ q, K = q + 1 := ⟨K - 1, by omega⟩
          rw [winnowlaw19_ended.j1, if_neg (by decide)]
          by_cases h4 : ans ≥ 2
          · rw [if_pos h4, hwa]
            by_cases h5 : ans - 2 < (c0.length : Int)
            · rw [if_pos h5, if_pos (by omega)]
              obtain ⟨j, hj⟩ : ∃ j : Nat, ans - 2 = j := ⟨(ans - 2).toNat, by omega⟩
              rw [hj] at h5 h3 ⊢
              have hz : 0 ≤ (rd_T38 c0 (j : Int)).f2 ∧ (rd_T38 c0 (j : Int)).f2 ≤ 16 := by
                obtain ⟨q1, q2, q3, q4, q5, q6, q7, q8, q9⟩ := (check_iff _ _ _ _).1 hJ.check
                obtain ⟨z1, z2, z3, z4, z5, z6, z7⟩ := good_state (q6 _ (rd_mem (l := c0) (n := j) (by omega)))
                exact ⟨z5, by omega⟩
              rw [w64 (n := (rd_T38 c0 (j : Int)).f2 + 1) (by omega) (by omega), decide_eq_false (fun q => h3 ⟨h4, h5, q⟩)]
              exact J2f K d0 d1 (by omega) e
            · rw [if_neg h5]
              exact J2f K d0 d1 (by omega) e
          · rw [if_neg h4]
            exact J2f K d0 d1 (by omega) e
      obtain ⟨d0, d1, s', c', bl', e, R, B, C, M⟩ := REST
      refine ⟨d0, d1, a, fr, s', c', bl', _, _, hbg, hJ, fun K hK => ?_, R, B, C, M⟩
      unfold winnowlaw19_ended.f
      rw [if_neg hk]
      by_cases h2 : ans = 1
      · rw [if_pos h2, if_pos (by omega), if_pos (by omega), hrd]
        dsimp only
        rw [hw2, decide_eq_false (fun q => h1 ⟨h2, q⟩)]
        exact e K (by omega)
      · rw [if_neg h2]
        exact e K (by omega)
end Go.Proofs.YtponmfnegdlppaaDoor.P

end
section
/- What a book tells between two rounds. -/
namespace Go.Proofs.YtponmfnegdlppaaDoor.P
open Go.RowKit Go.Proofs.YtponmfnegdlppaaDoorW.PrintWords Go.Proofs.YtponmfnegdlppaaDoorW.PrintLast Go.Proofs.YtponmfnegdlppaaDoorW.PrintMore
set_option linter.unusedVariables false

theorem sumW_eq (g : S38 → Int) : ∀ (l : List S38) (n : Int), 0 ≤ n → n + 17 * l.length ≤ 100000 → (∀ x ∈ l, 0 ≤ g x ∧ g x ≤ 17) → sumW g l n = n + sumL g l
  | [], n, _, _, _ => by simp [sumW, sumL]
  | x :: l, n, h0, h1, h2 => by
    have hx := h2 x (List.mem_cons_self ..)
    have e : sumL g (x :: l) = g x + sumL g l := by unfold sumL; rw [List.map_cons, List.sum_cons]
    rw [List.length_cons] at h1
    push_cast at h1
    rw [sumW, w64 (n := n + g x) (by omega) (by omega), sumW_eq g l (n + g x) (by omega) (by omega) (fun y m => h2 y (List.mem_cons_of_mem _ m)), e]
    omega
theorem begun_eq {t : Int} {l0 l1 : List S38} {fl : Bool} {m r : Nat} {bg ch : Nat → Bool} {s c : Int} (h : INV t l0 l1 fl m r bg ch s c) (hm : m ≤ 6) (hr : r ≤ 6) : begunP t l0 l1 fl = (s, c) := by
  obtain ⟨q1, q2, q3, q4, q5, q6, q7, q8, q9⟩ := (check_iff _ _ _ _).1 h.check
  have n0 := h.n0
  have n1 := h.n1
  have hall : ∀ x ∈ l0 ++ l1, (0 ≤ x.f1 ∧ x.f1 ≤ 17) ∧ (0 ≤ x.f2 ∧ x.f2 ≤ 17) := fun x mx => by
    rcases List.mem_append.1 mx with mx | mx
    · obtain ⟨g1, g2, g3, g4, g5, g6, g7⟩ := good_state (q6 x mx)
      by_cases e : x.f0 = 0
      · have := g3 e; omega
      · have := g4 e; omega
    · obtain ⟨g1, g2, g3, g4, g5, g6, g7⟩ := good_state (q7 x mx)
      by_cases e : x.f0 = 0
      · have := g3 e; omega
      · have := g4 e; omega
  have b1 := sumL_le S38.f1 17 (by decide) l0 (fun x mx => (hall x (List.mem_append_left _ mx)).1)
  have b2 := sumL_le S38.f2 17 (by decide) l0 (fun x mx => (hall x (List.mem_append_left _ mx)).2)
  unfold begunP
  rw [if_pos h.check]
  rw [sumW_eq S38.f1 l0 0 (by omega) (by omega) (fun x mx => (hall x (List.mem_append_left _ mx)).1), sumW_eq S38.f2 l0 0 (by omega) (by omega) (fun x mx => (hall x (List.mem_append_left _ mx)).2),
    sumW_eq S38.f1 l1 _ (by omega) (by omega) (fun x mx => (hall x (List.mem_append_right _ mx)).1), sumW_eq S38.f2 l1 _ (by omega) (by omega) (fun x mx => (hall x (List.mem_append_right _ mx)).2), h.starts, h.charges, sumL_app, sumL_app, Int.zero_add, Int.zero_add]
theorem readyM_mem : ∀ (l : List S38) (i : Nat) (x : S29), x ∈ readyM i l → ∃ n : Nat, n < l.length ∧ x = ⟨0, ((i + n : Nat) : Int)⟩ ∧ (rd_T38 l (n : Int)).f0 = 0
  | [], i, x, h => by simp [readyM] at h
  | s :: l, i, x, h => by
    have step : x ∈ readyM (i + 1) l → ∃ n : Nat, n < (s :: l).length ∧ x = ⟨0, ((i + n : Nat) : Int)⟩ ∧ (rd_T38 (s :: l) (n : Int)).f0 = 0 := fun m => by
      obtain ⟨n, hn, e, e2⟩ := readyM_mem l (i + 1) x m
      refine ⟨n + 1, by rw [List.length_cons]; omega, by rw [e]; congr 2; omega, ?_⟩
      rw [rd38 l n hn] at e2
      rw [rd38 (s :: l) (n + 1) (by rw [List.length_cons]; omega), List.getElem_cons_succ]
      exact e2
    rw [readyM] at h
    by_cases e : s.f0 = 0
    · rw [if_pos e] at h
      rcases List.mem_cons.1 h with rfl | h
      · exact ⟨0, by simp, rfl, by rw [rd38 (s :: l) 0 (by simp)]; exact e⟩
      · exact step h
    · rw [if_neg e] at h
      exact step h
theorem readyR_mem : ∀ (l : List S38) (i : Nat) (x : S29), x ∈ readyR i l → ∃ n : Nat, n < l.length ∧ x = ⟨1, ((i + n : Nat) : Int)⟩ ∧ ((rd_T38 l (n : Int)).f0 = 0 ∨ (rd_T38 l (n : Int)).f0 = 2)
  | [], i, x, h => by simp [readyR] at h
  | s :: l, i, x, h => by
    have step : x ∈ readyR (i + 1) l → ∃ n : Nat, n < (s :: l).length ∧ x = ⟨1, ((i + n : Nat) : Int)⟩ ∧ ((rd_T38 (s :: l) (n : Int)).f0 = 0 ∨ (rd_T38 (s :: l) (n : Int)).f0 = 2) := fun m => by
      obtain ⟨n, hn, e, e2⟩ := readyR_mem l (i + 1) x m
      refine ⟨n + 1, by rw [List.length_cons]; omega, by rw [e]; congr 2; omega, ?_⟩
      rw [rd38 l n hn] at e2
      rw [rd38 (s :: l) (n + 1) (by rw [List.length_cons]; omega), List.getElem_cons_succ]
      exact e2
    have here : x = ⟨1, (i : Int)⟩ → (s.f0 = 0 ∨ s.f0 = 2) → ∃ n : Nat, n < (s :: l).length ∧ x = ⟨1, ((i + n : Nat) : Int)⟩ ∧ ((rd_T38 (s :: l) (n : Int)).f0 = 0 ∨ (rd_T38 (s :: l) (n : Int)).f0 = 2) := fun e e2 =>
      ⟨0, by simp, by rw [e]; rfl, by rw [rd38 (s :: l) 0 (by simp)]; exact e2⟩
    rw [readyR] at h
    by_cases e : s.f0 = 0
    · rw [if_pos e] at h
      rcases List.mem_cons.1 h with h | h
      · exact here h (.inl e)
      · exact step h
    · rw [if_neg e] at h
      by_cases e2 : s.f0 = 2
      · rw [if_pos e2] at h
        rcases List.mem_cons.1 h with h | h
        · exact here h (.inr e2)
        · exact step h
      · rw [if_neg e2] at h
        exact step h
theorem readyM_none : ∀ (l : List S38) (i : Nat), readyM i l = [] → ∀ x ∈ l, x.f0 ≠ 0
  | [], i, _ => fun x m => absurd m List.not_mem_nil
  | s :: l, i, h => by
    rw [readyM] at h
    by_cases e : s.f0 = 0
    · rw [if_pos e] at h; cases h
    · rw [if_neg e] at h
      intro x m
      rcases List.mem_cons.1 m with rfl | m
      · exact e
      · exact readyM_none l (i + 1) h x m
theorem readyR_none : ∀ (l : List S38) (i : Nat), readyR i l = [] → ∀ x ∈ l, x.f0 ≠ 0 ∧ x.f0 ≠ 2
  | [], i, _ => fun x m => absurd m List.not_mem_nil
  | s :: l, i, h => by
    rw [readyR] at h
    by_cases e : s.f0 = 0
    · rw [if_pos e] at h; cases h
    · rw [if_neg e] at h
      by_cases e2 : s.f0 = 2
      · rw [if_pos e2] at h; cases h
      · rw [if_neg e2] at h
        intro x m
        rcases List.mem_cons.1 m with rfl | m
        · exact ⟨e, e2⟩
        · exact readyR_none l (i + 1) h x m
/-- what is told as ready may be begun -/
theorem RUN.ready {t : Int} {l0 l1 : List S38} {m r : Nat} {s c i bl : Int} (h : RUN t l0 l1 m r s c i bl) (x : S29) (hx : x ∈ readyP t l0 l1 false) : isTask l0 l1 x.f0 x.f1 ∧ ((stP l0 l1 x.f0 x.f1).f0 = 0 ∨ (stP l0 l1 x.f0 x.f1).f0 = 2) ∧ (x.f0 = 1 → allP l0 = true) := by
  obtain ⟨bg, ch, hI⟩ := h.inv
  unfold readyP at hx
  rw [if_pos hI.check, if_neg (by decide)] at hx
  rcases List.mem_append.1 hx with hx | hx
  · obtain ⟨n, hn, rfl, e⟩ := readyM_mem l0 0 x hx
    rw [Nat.zero_add]
    exact ⟨.inl ⟨rfl, n, rfl, hn⟩, .inl (by unfold stP; rw [if_pos rfl]; exact e), fun q => absurd q (by show ¬ (0 : Int) = 1; decide)⟩
  · by_cases ha : allP l0 = true
    · rw [if_pos ha] at hx
      obtain ⟨n, hn, rfl, e⟩ := readyR_mem l1 0 x hx
      rw [Nat.zero_add]
      exact ⟨.inr ⟨rfl, n, rfl, hn⟩, by unfold stP; rw [if_neg (by show ¬ (1 : Int) = 0; decide)]; exact e, fun _ => ha⟩
    · rw [if_neg ha] at hx
      exact absurd hx List.not_mem_nil
/-- as long as it is not over there is something to do -/
theorem RUN.some_ready {t : Int} {l0 l1 : List S38} {m r : Nat} {s c i bl : Int} (h : RUN t l0 l1 m r s c i bl) (ho : ¬ allP l1 = true) : readyP t l0 l1 false ≠ [] := by
  obtain ⟨bg, ch, hI⟩ := h.inv
  obtain ⟨q1, q2, q3, q4, q5, q6, q7, q8, q9⟩ := (check_iff _ _ _ _).1 hI.check
  unfold readyP
  rw [if_pos hI.check, if_neg (by decide)]
  intro e
  obtain ⟨e1, e2⟩ := List.append_eq_nil_iff.1 e
  have hall : allP l0 = true := by
    unfold allP
    rw [List.all_eq_true]
    intro x mx
    obtain ⟨g1, g2, _⟩ := good_state (q6 x mx)
    have a1 := readyM_none l0 0 e1 x mx
    have a2 := h.rest x (List.mem_append_left _ mx)
    have a3 := g2 rfl
    exact decide_eq_true (by omega)
  rw [if_pos hall] at e2
  refine ho ?_
  unfold allP
  rw [List.all_eq_true]
  intro x mx
  obtain ⟨g1, g2, _⟩ := good_state (q7 x mx)
  have a1 := readyR_none l1 0 e2 x mx
  have a2 := h.rest x (List.mem_append_right _ mx)
  exact decide_eq_true (by omega)
theorem RUN.bounds {t : Int} {l0 l1 : List S38} {m r : Nat} {s c i bl : Int} (h : RUN t l0 l1 m r s c i bl) (hm : m ≤ 6) (hr : r ≤ 6) : 0 ≤ s ∧ s ≤ 1000 ∧ 0 ≤ c ∧ c ≤ 1000 ∧ s ≤ m + r + c ∧ 0 ≤ bl ∧ bl ≤ 1000 ∧ i ≤ m + r + c + bl := by
  obtain ⟨bg, ch, hI⟩ := h.inv
  have a := hI.small hm hr
  have b0 := h.b0
  have b1 := h.b1
  have hc := h.count
  have hz := sumL_le hd 1 (by omega) (l0 ++ l1) (fun x _ => by unfold hd; split <;> omega)
  omega
theorem allP_rd {l : List S38} (h : allP l = true) (n : Nat) (hn : n < l.length) : (rd_T38 l (n : Int)).f0 = 3 := by
  unfold allP at h
  rw [rd38 l n hn]
  exact of_decide_eq_true (List.all_eq_true.1 h _ (List.getElem_mem hn))
end Go.Proofs.YtponmfnegdlppaaDoor.P

end
section
-- Written by a program of this session (wip/tools/hprint.py, over the kit's printer), not by hand. Lean checks it.
namespace Go.Proofs.YtponmfnegdlppaaDoor.P
open Go.RowKit Go.Proofs.YtponmfnegdlppaaDoorW.PrintWords Go.Proofs.YtponmfnegdlppaaDoorW.PrintLast Go.Proofs.YtponmfnegdlppaaDoorW.PrintMore
attribute [local go_sem] max2_int min2_int max_two min_two max_three min_three max_four min_four
set_option linter.unusedVariables false
set_option linter.unusedSimpArgs false

theorem eqA38 (d : Nat) (w : World) (x0 y0 : Int) (x1 y1 : Int) (x2 y2 : Int) :
    (Op.equalIn (d + 2) 38 (.agg #[.int .i64 x0, .int .i64 x1, .int .i64 x2]) (.agg #[.int .i64 y0, .int .i64 y1, .int .i64 y2])).run Tryd.prog w = .ok (x0 == y0 && (x1 == y1 && (x2 == y2))) w := by
  refine eqA_of Tryd.underlying38 (by kernel_rfl) ?_
  refine eqf_cons (by rfl) (by go_simp; rfl) (by go_simp; rfl) (by go_simp) ?_
  refine eqf_cons (by rfl) (by go_simp; rfl) (by go_simp; rfl) (by go_simp) ?_
  exact eqf_last (by rfl) (by go_simp; rfl) (by go_simp; rfl) (by go_simp)
end Go.Proofs.YtponmfnegdlppaaDoor.P

end
section
-- Written by a program of this session (wip/tools/hprint.py, over the kit's printer), not by hand. Lean checks it.
namespace Go.Proofs.YtponmfnegdlppaaDoor.P
open Go.RowKit Go.Proofs.YtponmfnegdlppaaDoorW.PrintWords Go.Proofs.YtponmfnegdlppaaDoorW.PrintLast Go.Proofs.YtponmfnegdlppaaDoorW.PrintMore
attribute [local go_sem] max2_int min2_int max_two min_two max_three min_three max_four min_four
set_option linter.unusedVariables false
set_option linter.unusedSimpArgs false

attribute [local go_sem high] eqA38
/-! ### winnowlaw19_sameStates: function 53 -/
def winnowlaw19_sameStates.l0 : Nat → List (S38) → List (S38) → Int → Option (Bool)
  | 0, _, _, _ => none
  | k + 1, x0, x1, x5 => if x5 < (x0.length : Int) then (if 0 ≤ x5 then (if x5 < (x1.length : Int) then (if (!(((rd_T38 x0 x5).f0) == ((rd_T38 x1 x5).f0)) || (!(((rd_T38 x0 x5).f1) == ((rd_T38 x1 x5).f1)) || (!(((rd_T38 x0 x5).f2) == ((rd_T38 x1 x5).f2))))) = true then (some false) else (winnowlaw19_sameStates.l0 k x0 x1 (wrap64 (x5 + 1)))) else (none)) else (none)) else (some true)
def winnowlaw19_sameStates.f (k : Nat) (l0 : List (S38)) (l1 : List (S38)) : Option (Bool) := if (l0.length : Int) = (l1.length : Int) then (winnowlaw19_sameStates.l0 k l0 l1 0) else (some false)
theorem winnowlaw19_sameStates.mono_l : ∀ k, (∀ y0 y1 y2, LeO (winnowlaw19_sameStates.l0 k y0 y1 y2) (winnowlaw19_sameStates.l0 (k + 1) y0 y1 y2))
  | 0 => fun _ _ _ r h => by simp [winnowlaw19_sameStates.l0] at h
  | k + 1 => by
    have ih0 := winnowlaw19_sameStates.mono_l k
    · intro y0 y1 y2
      unfold winnowlaw19_sameStates.l0
      repeat' first
      | (with_reducible exact ih0 _ _ _)
      | (with_reducible exact LeO.refl _)
      | (with_reducible exact LeO.none _)
      | (with_reducible refine LeO.ite ?_ ?_)
      | (with_reducible refine LeO.bind ?_ (fun _ => ?_))
      | exact ih0 _ _ _
      | exact LeO.none _
      | refine LeO.ite ?_ ?_
      | refine LeO.bind ?_ (fun _ => ?_)
theorem winnowlaw19_sameStates.mono : ∀ a0 a1 k, LeO (winnowlaw19_sameStates.f k a0 a1) (winnowlaw19_sameStates.f (k + 1) a0 a1) := by
  intro a0 a1 k
  have ih0 := winnowlaw19_sameStates.mono_l k
  unfold winnowlaw19_sameStates.f
  repeat' first
      | (with_reducible exact ih0 _ _ _)
      | (with_reducible exact LeO.refl _)
      | (with_reducible exact LeO.none _)
      | (with_reducible refine LeO.ite ?_ ?_)
      | (with_reducible refine LeO.bind ?_ (fun _ => ?_))
      | exact ih0 _ _ _
      | exact LeO.none _
      | refine LeO.ite ?_ ?_
      | refine LeO.bind ?_ (fun _ => ?_)
set_option maxHeartbeats 8000000 in
set_option maxRecDepth 100000 in
theorem winnowlaw19_sameStates.calls (k : Nat) (A0 : Option Addr) (c0 : Nat) (l0 : List (S38)) (A1 : Option Addr) (c1 : Nat) (l1 : List (S38)) (r : Bool) (w : World) (hr0 : Kd.C k38 w A0 l0.length l0) (hc0 : l0.length ≤ c0) (hr1 : Kd.C k38 w A1 l1.length l1) (hc1 : l1.length ≤ c1) (h : winnowlaw19_sameStates.f k l0 l1 = some r) :
    Calls Tryd.prog 53 #[.slice A0 l0.length c0, .slice A1 l1.length c1] w fun e w' => e = .returned (.bool r) ∧ Drawn0 w w' := by
  have hu38 := Tryd.underlying38
  have HR0 := Aside0.mk hr0
  have HC0 := Aside0.mk hc0
  clear hr0 hc0
  have HR1 := Aside0.mk hr1
  have HC1 := Aside0.mk hc1
  clear hr1 hc1
  have H : (if (l0.length : Int) = (l1.length : Int) then (winnowlaw19_sameStates.l0 k l0 l1 0) else (some false)) = some r := h
  clear h
  by_cases c3 : (l0.length : Int) = (l1.length : Int)
  · rw [if_pos c3] at H
    have c3b0 : ((l0.length : Int) == (l1.length : Int)) = true := beq_iff_eq.mpr c3
    have c3b1 : ((l0.length : Int) != (l1.length : Int)) = false := bne_eq_false_iff_eq.mpr c3
    have c3b2 : (l0.length == l1.length) = true := by first | simpa using c3 | (simp at c3 ⊢; omega)
    clear c3
    have H' := Aside0.mk H
    clear H
    go_enter Tryd.func53, Tryd.ntmps53
    go_wp2
    repeat (go_quiet (fail); try go_wp2)
    go_loopg [5] k (fun kq v5 w' => ∃ (x5_1 : Int), v5 = .int .i64 x5_1 ∧ Aside0 (winnowlaw19_sameStates.l0 kq l0 l1 x5_1 = some r) ∧ Aside0 (kq ≤ k) ∧ Drawn0 w w')
    case atStart => exact ⟨(0), (by first | rfl | (simp; done) | (simp [*]; done)), H', ⟨Nat.le_refl _⟩, by repeat (first | exact Drawn0.refl _ | apply Drawn0.step)⟩
    case round =>
      clear H'
      try clear c1
      try clear p2
      try clear c3
      try clear c3b0
      try clear c3b1
      try clear c3b2
      obtain ⟨x5_1, rfl, HA, HK1, ⟨m1, rfl⟩⟩ := hrel
      cases gk with
      | zero => exact absurd HA.out (by simp [winnowlaw19_sameStates.l0])
      | succ k1 =>
        have H := HA.out
        clear HA
        simp only [winnowlaw19_sameStates.l0] at H
        by_cases c4 : x5_1 < (l0.length : Int)
        · rw [if_pos c4] at H
          have c4b0 : decide (x5_1 < (l0.length : Int)) = true := decide_eq_true c4
          clear c4
          by_cases c5 : 0 ≤ x5_1
          · rw [if_pos c5] at H
            have c5b0 : decide (0 ≤ x5_1) = true := decide_eq_true c5
            clear c5
            by_cases c6 : x5_1 < (l1.length : Int)
            · rw [if_pos c6] at H
              have c6b0 : decide (x5_1 < (l1.length : Int)) = true := decide_eq_true c6
              clear c6
              by_cases c7 : (!(((rd_T38 l0 x5_1).f0) == ((rd_T38 l1 x5_1).f0)) || (!(((rd_T38 l0 x5_1).f1) == ((rd_T38 l1 x5_1).f1)) || (!(((rd_T38 l0 x5_1).f2) == ((rd_T38 l1 x5_1).f2))))) = true
              · rw [if_pos c7] at H
                have c7b0 : (!(((rd_T38 l0 x5_1).f0) == ((rd_T38 l1 x5_1).f0)) || (!(((rd_T38 l0 x5_1).f1) == ((rd_T38 l1 x5_1).f1)) || (!(((rd_T38 l0 x5_1).f2) == ((rd_T38 l1 x5_1).f2))))) = true := c7
                clear c7
                obtain rfl := Option.some.inj H
                have p168 : 0 ≤ (x5_1 : Int) := of_decide_eq_true (by first | (with_reducible assumption) | assumption)
                have q168 : x5_1 < (l0.length : Int) := of_decide_eq_true (by first | (with_reducible assumption) | assumption)
                obtain ⟨ad168, e168, hx168_0, hx168_1, hx168_2⟩ := at_T38 HR0.out x5_1 p168 q168
                cases e168
                replace p168 := eq_true p168
                replace q168 := eq_true q168
                have p169 : 0 ≤ (x5_1 : Int) := of_decide_eq_true (by first | (with_reducible assumption) | assumption)
                have q169 : x5_1 < (l1.length : Int) := of_decide_eq_true (by first | (with_reducible assumption) | assumption)
                obtain ⟨ad169, e169, hx169_0, hx169_1, hx169_2⟩ := at_T38 HR1.out x5_1 p169 q169
                cases e169
                replace p169 := eq_true p169
                replace q169 := eq_true q169
                go_wp2
                repeat (go_quiet (fail); try go_wp2)
                go_ret
                exact ⟨by first | rfl | (simp; done) | (simp [*]; done), by repeat (first | exact Drawn0.refl _ | apply Drawn0.step)⟩
              · rw [if_neg c7] at H
                have c7b0 : (!(((rd_T38 l0 x5_1).f0) == ((rd_T38 l1 x5_1).f0)) || (!(((rd_T38 l0 x5_1).f1) == ((rd_T38 l1 x5_1).f1)) || (!(((rd_T38 l0 x5_1).f2) == ((rd_T38 l1 x5_1).f2))))) = false := by simpa using c7
                clear c7
                have H' := Aside0.mk H
                clear H
                have p168 : 0 ≤ (x5_1 : Int) := of_decide_eq_true (by first | (with_reducible assumption) | assumption)
                have q168 : x5_1 < (l0.length : Int) := of_decide_eq_true (by first | (with_reducible assumption) | assumption)
                obtain ⟨ad168, e168, hx168_0, hx168_1, hx168_2⟩ := at_T38 HR0.out x5_1 p168 q168
                cases e168
                replace p168 := eq_true p168
                replace q168 := eq_true q168
                have p169 : 0 ≤ (x5_1 : Int) := of_decide_eq_true (by first | (with_reducible assumption) | assumption)
                have q169 : x5_1 < (l1.length : Int) := of_decide_eq_true (by first | (with_reducible assumption) | assumption)
                obtain ⟨ad169, e169, hx169_0, hx169_1, hx169_2⟩ := at_T38 HR1.out x5_1 p169 q169
                cases e169
                replace p169 := eq_true p169
                replace q169 := eq_true q169
                go_wp2
                repeat (go_quiet (fail); try go_wp2)
                go_roundg k1
                case measure => have := HK1.out; omega
                case rel => exact ⟨(wrap64 (x5_1 + 1)), (by first | rfl | (simp; done) | (simp [*]; done)), H', ⟨by have := HK1.out; omega⟩, by repeat (first | exact Drawn0.refl _ | apply Drawn0.step)⟩
            · rw [if_neg c6] at H
              exact absurd H (by simp)
          · rw [if_neg c5] at H
            exact absurd H (by simp)
        · rw [if_neg c4] at H
          have c4b0 : decide (x5_1 < (l0.length : Int)) = false := decide_eq_false c4
          clear c4
          obtain rfl := Option.some.inj H
          go_wp2
          repeat (go_quiet (fail); try go_wp2)
          go_ret
          exact ⟨by first | rfl | (simp; done) | (simp [*]; done), by repeat (first | exact Drawn0.refl _ | apply Drawn0.step)⟩
  · rw [if_neg c3] at H
    have c3b0 : ((l0.length : Int) == (l1.length : Int)) = false := beq_eq_false_iff_ne.mpr c3
    have c3b1 : ((l0.length : Int) != (l1.length : Int)) = true := bne_iff_ne.mpr c3
    have c3b2 : (l0.length == l1.length) = false := by first | simpa using c3 | (simp at c3 ⊢; omega)
    obtain rfl := Option.some.inj H
    go_enter Tryd.func53, Tryd.ntmps53
    go_wp2
    repeat (go_quiet (fail); try go_wp2)
    go_ret
    exact ⟨by first | rfl | (simp; done) | (simp [*]; done), by repeat (first | exact Drawn0.refl _ | apply Drawn0.step)⟩

end Go.Proofs.YtponmfnegdlppaaDoor.P

end
