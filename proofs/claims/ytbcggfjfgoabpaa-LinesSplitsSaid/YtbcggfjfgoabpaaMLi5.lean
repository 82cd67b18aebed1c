/- Several texts laid together (wip/tools/merge2.py): Pf26, Pf23, HBackI, CutsPlain, HCuts, HSplitsLaw. -/
import Derived.Test.YtbcggfjfgoabpaaMLi1
import Derived.Test.YtbcggfjfgoabpaaMLi4
import Derived.Outline
section
-- Written by a program of this session (wip/tools/hprint.py, over the kit's printer), not by hand. Lean checks it.
namespace Go.Proofs.Ytbcggfjfgoabpaa.P
open Go.RowKit Go.Proofs.YtbcggfjfgoabpaaW.PrintWords Go.Proofs.YtbcggfjfgoabpaaW.PrintLast Go.Proofs.YtbcggfjfgoabpaaW.PrintMore
attribute [local go_sem] max2_int min2_int max_two min_two max_three min_three max_four min_four
set_option linter.unusedVariables false
set_option linter.unusedSimpArgs false

attribute [local go_sem high] eqA23
/-! ### winnowlaw13_sameSplits: function 26 -/
def winnowlaw13_sameSplits.l0 : Nat → List (S23) → List (S23) → Int → Option (Bool)
  | 0, _, _, _ => none
  | k + 1, x0, x1, x5 => if x5 < (x0.length : Int) then (if 0 ≤ x5 then (if x5 < (x1.length : Int) then (if (!(((rd_T23 x0 x5).f0) == ((rd_T23 x1 x5).f0)) || (!((((rd_T23 x0 x5).f1).toList) == (((rd_T23 x1 x5).f1).toList)))) = true then (some false) else (winnowlaw13_sameSplits.l0 k x0 x1 (wrap64 (x5 + 1)))) else (none)) else (none)) else (some true)
def winnowlaw13_sameSplits.f (k : Nat) (l0 : List (S23)) (l1 : List (S23)) : Option (Bool) := if (l0.length : Int) = (l1.length : Int) then (winnowlaw13_sameSplits.l0 k l0 l1 0) else (some false)
theorem winnowlaw13_sameSplits.mono_l : ∀ k, (∀ y0 y1 y2, LeO (winnowlaw13_sameSplits.l0 k y0 y1 y2) (winnowlaw13_sameSplits.l0 (k + 1) y0 y1 y2))
  | 0 => fun _ _ _ r h => by simp [winnowlaw13_sameSplits.l0] at h
  | k + 1 => by
    have ih0 := winnowlaw13_sameSplits.mono_l k
    · intro y0 y1 y2
      unfold winnowlaw13_sameSplits.l0
      repeat' first
      | (with_reducible exact ih0 _ _ _)
      | (with_reducible exact LeO.refl _)
      | (with_reducible exact LeO.none _)
      | (with_reducible refine LeO.ite ?_ ?_)
      | (with_reducible refine LeO.bind ?_ (fun _ => ?_))
      | exact ih0 _ _ _
      | exact LeO.none _
      | refine LeO.ite ?_ ?_
      | refine LeO.bind ?_ (fun _ => ?_)
theorem winnowlaw13_sameSplits.mono : ∀ a0 a1 k, LeO (winnowlaw13_sameSplits.f k a0 a1) (winnowlaw13_sameSplits.f (k + 1) a0 a1) := by
  intro a0 a1 k
  have ih0 := winnowlaw13_sameSplits.mono_l k
  unfold winnowlaw13_sameSplits.f
  repeat' first
      | (with_reducible exact ih0 _ _ _)
      | (with_reducible exact LeO.refl _)
      | (with_reducible exact LeO.none _)
      | (with_reducible refine LeO.ite ?_ ?_)
      | (with_reducible refine LeO.bind ?_ (fun _ => ?_))
      | exact ih0 _ _ _
      | exact LeO.none _
      | refine LeO.ite ?_ ?_
      | refine LeO.bind ?_ (fun _ => ?_)
set_option maxHeartbeats 8000000 in
set_option maxRecDepth 100000 in
theorem winnowlaw13_sameSplits.calls (k : Nat) (A0 : Option Addr) (c0 : Nat) (l0 : List (S23)) (A1 : Option Addr) (c1 : Nat) (l1 : List (S23)) (r : Bool) (w : World) (hr0 : Kd.C k23 w A0 l0.length l0) (hc0 : l0.length ≤ c0) (hr1 : Kd.C k23 w A1 l1.length l1) (hc1 : l1.length ≤ c1) (h : winnowlaw13_sameSplits.f k l0 l1 = some r) :
    Calls Try.prog 26 #[.slice A0 l0.length c0, .slice A1 l1.length c1] w fun e w' => e = .returned (.bool r) ∧ Drawn0 w w' := by
  have hu23 := Try.underlying23
  have HR0 := Aside0.mk hr0
  have HC0 := Aside0.mk hc0
  clear hr0 hc0
  have HR1 := Aside0.mk hr1
  have HC1 := Aside0.mk hc1
  clear hr1 hc1
  have H : (if (l0.length : Int) = (l1.length : Int) then (winnowlaw13_sameSplits.l0 k l0 l1 0) else (some false)) = some r := h
  clear h
  by_cases c3 : (l0.length : Int) = (l1.length : Int)
  · rw [if_pos c3] at H
    have c3b0 : ((l0.length : Int) == (l1.length : Int)) = true := beq_iff_eq.mpr c3
    have c3b1 : ((l0.length : Int) != (l1.length : Int)) = false := bne_eq_false_iff_eq.mpr c3
    have c3b2 : (l0.length == l1.length) = true := by first | simpa using c3 | (simp at c3 ⊢; omega)
    clear c3
    have H' := Aside0.mk H
    clear H
    go_enter Try.func26, Try.ntmps26
    go_wp2
    repeat (go_quiet (fail); try go_wp2)
    go_loopg [5] k (fun kq v5 w' => ∃ (x5_1 : Int), v5 = .int .i64 x5_1 ∧ Aside0 (winnowlaw13_sameSplits.l0 kq l0 l1 x5_1 = some r) ∧ Aside0 (kq ≤ k) ∧ Drawn0 w w')
    case atStart => exact ⟨(0), (by first | rfl | (simp; done) | (simp [*]; done)), H', ⟨Nat.le_refl _⟩, by repeat (first | exact Drawn0.refl _ | apply Drawn0.step)⟩
    case round =>
      clear H'
      try clear c1
      try clear c2
      try clear p2
      try clear c3
      try clear c3b0
      try clear c3b1
      try clear c3b2
      obtain ⟨x5_1, rfl, HA, HK1, ⟨m1, rfl⟩⟩ := hrel
      cases gk with
      | zero => exact absurd HA.out (by simp [winnowlaw13_sameSplits.l0])
      | succ k1 =>
        have H := HA.out
        clear HA
        simp only [winnowlaw13_sameSplits.l0] at H
        by_cases c4 : x5_1 < (l0.length : Int)
        · rw [if_pos c4] at H
          have c4b0 : decide (x5_1 < (l0.length : Int)) = true := decide_eq_true c4
          clear c4
          by_cases c5 : 0 ≤ x5_1
          · rw [if_pos c5] at H
            have c5b0 : decide (0 ≤ x5_1) = true := decide_eq_true c5
            clear c5
            by_cases c6 : x5_1 < (l1.length : Int)
            · rw [if_pos c6] at H
              have c6b0 : decide (x5_1 < (l1.length : Int)) = true := decide_eq_true c6
              clear c6
              by_cases c7 : (!(((rd_T23 l0 x5_1).f0) == ((rd_T23 l1 x5_1).f0)) || (!((((rd_T23 l0 x5_1).f1).toList) == (((rd_T23 l1 x5_1).f1).toList)))) = true
              · rw [if_pos c7] at H
                have c7b0 : (!(((rd_T23 l0 x5_1).f0) == ((rd_T23 l1 x5_1).f0)) || (!((((rd_T23 l0 x5_1).f1).toList) == (((rd_T23 l1 x5_1).f1).toList)))) = true := c7
                clear c7
                obtain rfl := Option.some.inj H
                have p374 : 0 ≤ (x5_1 : Int) := of_decide_eq_true (by first | (with_reducible assumption) | assumption)
                have q374 : x5_1 < (l0.length : Int) := of_decide_eq_true (by first | (with_reducible assumption) | assumption)
                obtain ⟨ad374, e374, hx374_0, hx374_1⟩ := at_T23 HR0.out x5_1 p374 q374
                cases e374
                replace p374 := eq_true p374
                replace q374 := eq_true q374
                have p375 : 0 ≤ (x5_1 : Int) := of_decide_eq_true (by first | (with_reducible assumption) | assumption)
                have q375 : x5_1 < (l1.length : Int) := of_decide_eq_true (by first | (with_reducible assumption) | assumption)
                obtain ⟨ad375, e375, hx375_0, hx375_1⟩ := at_T23 HR1.out x5_1 p375 q375
                cases e375
                replace p375 := eq_true p375
                replace q375 := eq_true q375
                go_wp2
                repeat (go_quiet (fail); try go_wp2)
                go_ret
                exact ⟨by first | rfl | (simp; done) | (simp [*]; done), by repeat (first | exact Drawn0.refl _ | apply Drawn0.step)⟩
              · rw [if_neg c7] at H
                have c7b0 : (!(((rd_T23 l0 x5_1).f0) == ((rd_T23 l1 x5_1).f0)) || (!((((rd_T23 l0 x5_1).f1).toList) == (((rd_T23 l1 x5_1).f1).toList)))) = false := by simpa using c7
                clear c7
                have H' := Aside0.mk H
                clear H
                have p374 : 0 ≤ (x5_1 : Int) := of_decide_eq_true (by first | (with_reducible assumption) | assumption)
                have q374 : x5_1 < (l0.length : Int) := of_decide_eq_true (by first | (with_reducible assumption) | assumption)
                obtain ⟨ad374, e374, hx374_0, hx374_1⟩ := at_T23 HR0.out x5_1 p374 q374
                cases e374
                replace p374 := eq_true p374
                replace q374 := eq_true q374
                have p375 : 0 ≤ (x5_1 : Int) := of_decide_eq_true (by first | (with_reducible assumption) | assumption)
                have q375 : x5_1 < (l1.length : Int) := of_decide_eq_true (by first | (with_reducible assumption) | assumption)
                obtain ⟨ad375, e375, hx375_0, hx375_1⟩ := at_T23 HR1.out x5_1 p375 q375
                cases e375
                replace p375 := eq_true p375
                replace q375 := eq_true q375
                go_wp2
                repeat (go_quiet (fail); try go_wp2)
                go_roundg k1
                case measure => have := HK1.out; omega
                case rel => exact ⟨(wrap64 (x5_1 + 1)), (by first | rfl | (simp; done) | (simp [*]; done)), H', ⟨by have := HK1.out; omega⟩, by repeat (first | exact Drawn0.refl _ | apply Drawn0.step)⟩
            · rw [if_neg c6] at H
              exact absurd H (by simp)
          · rw [if_neg c5] at H
            exact absurd H (by simp)
        · rw [if_neg c4] at H
          have c4b0 : decide (x5_1 < (l0.length : Int)) = false := decide_eq_false c4
          clear c4
          obtain rfl := Option.some.inj H
          go_wp2
          repeat (go_quiet (fail); try go_wp2)
          go_ret
          exact ⟨by first | rfl | (simp; done) | (simp [*]; done), by repeat (first | exact Drawn0.refl _ | apply Drawn0.step)⟩
  · rw [if_neg c3] at H
    have c3b0 : ((l0.length : Int) == (l1.length : Int)) = false := beq_eq_false_iff_ne.mpr c3
    have c3b1 : ((l0.length : Int) != (l1.length : Int)) = true := bne_iff_ne.mpr c3
    have c3b2 : (l0.length == l1.length) = false := by first | simpa using c3 | (simp at c3 ⊢; omega)
    obtain rfl := Option.some.inj H
    go_enter Try.func26, Try.ntmps26
    go_wp2
    repeat (go_quiet (fail); try go_wp2)
    go_ret
    exact ⟨by first | rfl | (simp; done) | (simp [*]; done), by repeat (first | exact Drawn0.refl _ | apply Drawn0.step)⟩

end Go.Proofs.Ytbcggfjfgoabpaa.P

end
section
-- Written by a program of this session (wip/tools/hprint.py, over the kit's printer), not by hand. Lean checks it.
namespace Go.Proofs.Ytbcggfjfgoabpaa.P
open Go.RowKit Go.Proofs.YtbcggfjfgoabpaaW.PrintWords Go.Proofs.YtbcggfjfgoabpaaW.PrintLast Go.Proofs.YtbcggfjfgoabpaaW.PrintMore
attribute [local go_sem] max2_int min2_int max_two min_two max_three min_three max_four min_four
set_option linter.unusedVariables false
set_option linter.unusedSimpArgs false

/-! ### winnowlaw13_back: function 23 -/
mutual
def winnowlaw13_back.l0 : Nat → List Int → Int → Int → Option (List Int)
  | 0, _, _, _ => none
  | k + 1, x0, x3, x4 => if x3 < x4 then (if 0 ≤ x3 then (if x3 < (x0.length : Int) then (if 0 ≤ x4 then (if x4 < (x0.length : Int) then (winnowlaw13_back.l0 k ((x0.set (x3 : Int).toNat (rd x0 x4)).set (x4 : Int).toNat (rd x0 x3)) (wrap64 (x3 + 1)) (wrap64 (x4 - 1))) else (none)) else (none)) else (none)) else (none)) else (winnowlaw13_back.l1 k x0 0)
def winnowlaw13_back.l1 : Nat → List Int → Int → Option (List Int)
  | 0, _, _ => none
  | k + 1, x0, x6 => if x6 < (x0.length : Int) then (if 0 ≤ x6 then (winnowlaw13_back.l1 k (x0.set (x6 : Int).toNat (wrap64 ((rd x0 x6) + 1))) (wrap64 (x6 + 1))) else (none)) else (some x0)
end
def winnowlaw13_back.f (k : Nat) (l0 : List Int) : Option (List Int) := winnowlaw13_back.l0 k l0 0 (wrap64 ((l0.length : Int) - 1))
theorem winnowlaw13_back.mono_l : ∀ k, (∀ y0 y1 y2, LeO (winnowlaw13_back.l0 k y0 y1 y2) (winnowlaw13_back.l0 (k + 1) y0 y1 y2)) ∧ (∀ y0 y1, LeO (winnowlaw13_back.l1 k y0 y1) (winnowlaw13_back.l1 (k + 1) y0 y1))
  | 0 => ⟨fun _ _ _ r h => by simp [winnowlaw13_back.l0] at h, fun _ _ r h => by simp [winnowlaw13_back.l1] at h⟩
  | k + 1 => by
    obtain ⟨ih0, ih1⟩ := winnowlaw13_back.mono_l k
    refine ⟨?_, ?_⟩
    · intro y0 y1 y2
      unfold winnowlaw13_back.l0
      repeat' first
      | (with_reducible exact ih0 _ _ _)
      | (with_reducible exact ih1 _ _)
      | (with_reducible exact LeO.refl _)
      | (with_reducible exact LeO.none _)
      | (with_reducible refine LeO.ite ?_ ?_)
      | (with_reducible refine LeO.bind ?_ (fun _ => ?_))
      | exact ih0 _ _ _
      | exact ih1 _ _
      | exact LeO.none _
      | refine LeO.ite ?_ ?_
      | refine LeO.bind ?_ (fun _ => ?_)
    · intro y0 y1
      unfold winnowlaw13_back.l1
      repeat' first
      | (with_reducible exact ih0 _ _ _)
      | (with_reducible exact ih1 _ _)
      | (with_reducible exact LeO.refl _)
      | (with_reducible exact LeO.none _)
      | (with_reducible refine LeO.ite ?_ ?_)
      | (with_reducible refine LeO.bind ?_ (fun _ => ?_))
      | exact ih0 _ _ _
      | exact ih1 _ _
      | exact LeO.none _
      | refine LeO.ite ?_ ?_
      | refine LeO.bind ?_ (fun _ => ?_)
theorem winnowlaw13_back.mono : ∀ a0 k, LeO (winnowlaw13_back.f k a0) (winnowlaw13_back.f (k + 1) a0) := by
  intro a0 k
  obtain ⟨ih0, ih1⟩ := winnowlaw13_back.mono_l k
  unfold winnowlaw13_back.f
  repeat' first
      | (with_reducible exact ih0 _ _ _)
      | (with_reducible exact ih1 _ _)
      | (with_reducible exact LeO.refl _)
      | (with_reducible exact LeO.none _)
      | (with_reducible refine LeO.ite ?_ ?_)
      | (with_reducible refine LeO.bind ?_ (fun _ => ?_))
      | exact ih0 _ _ _
      | exact ih1 _ _
      | exact LeO.none _
      | refine LeO.ite ?_ ?_
      | refine LeO.bind ?_ (fun _ => ?_)
set_option maxHeartbeats 8000000 in
set_option maxRecDepth 100000 in
theorem winnowlaw13_back.calls (k : Nat) (P0_ : Nat → Prop) (u9000_ : Value) (l0 : List Int) (r : List Int) (w0 w : World) (hB : Below w0.heap.size w0 w) (ho0 : Kd.R (Kd.int .i64) 3 w w0.heap.size P0_ u9000_ l0) (h : winnowlaw13_back.f k l0 = some r) :
    Calls Try.prog 23 #[u9000_] w fun e w' => ∃ v0_ : Value, e = .returned (v0_) ∧ Kd.R (Kd.int .i64) 3 w' w0.heap.size (fun k_ => (P0_ k_ ∨ w.heap.size ≤ k_)) v0_ r ∧ Below w0.heap.size w0 w' ∧ Kept w w' (fun k_ => P0_ k_) := by
  have HO0 := Aside0.mk (show Kd.R (Kd.int .i64) 3 w w0.heap.size (fun k_ => (P0_ k_ ∨ w.heap.size ≤ k_)) u9000_ l0 from Kd.R_mono ho0 (fun k_ hk => (.inl hk)))
  have HK := Aside0.mk (Kept.refl w (fun k_ => P0_ k_))
  have HW0 := Aside0.mk hB.size
  have HB := Aside0.mk hB
  clear hB
  have H : (winnowlaw13_back.l0 k l0 0 (wrap64 ((l0.length : Int) - 1))) = some r := h
  clear h
  have H' := Aside0.mk H
  clear H
  obtain ⟨Ao2, co2, eo2⟩ := Kd.R_slice HO0.out
  subst eo2
  go_enter Try.func23, Try.ntmps23
  go_wp2
  go_loopg [3, 4] k (fun kq v3 v4 w' => ∃ (x0_1 : List Int) (x3_1 : Int) (x4_1 : Int), v3 = .int .i64 x3_1 ∧ v4 = .int .i64 x4_1 ∧ Aside0 (winnowlaw13_back.l0 kq x0_1 x3_1 x4_1 = some r) ∧ Aside0 (kq ≤ k) ∧ Aside0 (Kd.R (Kd.int .i64) 3 w' w0.heap.size (fun k_ => (P0_ k_ ∨ w.heap.size ≤ k_)) (.slice Ao2 l0.length co2) x0_1) ∧ Aside0 (Kept w w' (fun k_ => P0_ k_)) ∧ Aside0 (Below w0.heap.size w0 w'))
  case atStart => exact ⟨(l0), (0), (wrap64 ((l0.length : Int) - 1)), (by first | rfl | (simp; done) | (simp [*]; done)), (by first | rfl | (simp; done) | (simp [*]; done)), H', ⟨Nat.le_refl _⟩, ⟨by (with_reducible repeat (first | apply Kd.R_alloc | apply Kd.R_drewN | apply Kd.R_drew)); exact HO0.out⟩, ⟨by repeat (first | (with_reducible first | exact HK.out | apply Kept.alloc | apply Kept.drewN | apply Kept.drew) | exact HK.out)⟩, ⟨by repeat (first | (with_reducible first | exact HB.out | apply below_alloc | apply pw_below_drewN | apply below_drew1) | exact HB.out)⟩⟩
  case round =>
    clear H'
    try clear c2
    try clear p2
    obtain ⟨x0_1, x3_1, x4_1, rfl, rfl, HA, HK1, HO_0, HK, HB⟩ := hrel
    have hl0_1 := (Kd.R_reads' HO_0.out).1
    rw [hl0_1] at HO_0
    (try simp only [hl0_1])
    cases gk with
    | zero => exact absurd HA.out (by simp [winnowlaw13_back.l0])
    | succ k1 =>
      have H := HA.out
      clear HA
      simp only [winnowlaw13_back.l0] at H
      by_cases c3 : x3_1 < x4_1
      · rw [if_pos c3] at H
        have c3b0 : decide (x3_1 < x4_1) = true := decide_eq_true c3
        clear c3
        by_cases c4 : 0 ≤ x3_1
        · rw [if_pos c4] at H
          have c4b0 : decide (0 ≤ x3_1) = true := decide_eq_true c4
          clear c4
          by_cases c5 : x3_1 < (x0_1.length : Int)
          · rw [if_pos c5] at H
            have c5b0 : decide (x3_1 < (x0_1.length : Int)) = true := decide_eq_true c5
            clear c5
            by_cases c6 : 0 ≤ x4_1
            · rw [if_pos c6] at H
              have c6b0 : decide (0 ≤ x4_1) = true := decide_eq_true c6
              clear c6
              by_cases c7 : x4_1 < (x0_1.length : Int)
              · rw [if_pos c7] at H
                have c7b0 : decide (x4_1 < (x0_1.length : Int)) = true := decide_eq_true c7
                clear c7
                obtain ⟨y348, hy348⟩ : ∃ y_ : List Int, y_ = (x0_1.set (x3_1 : Int).toNat (rd x0_1 x4_1)) := ⟨_, rfl⟩
                replace H : (winnowlaw13_back.l0 k1 (y348.set (x4_1 : Int).toNat (rd x0_1 x3_1)) (wrap64 (x3_1 + 1)) (wrap64 (x4_1 - 1))) = some r := by first | (rw [hy348]; with_reducible exact H) | (have H2_ := (Option.bind_some _ _).symm.trans H; rw [hy348]; with_reducible exact H2_) | (have H2_ := (Option.bind_some _ _).symm.trans H; with_reducible exact H2_) | with_reducible exact H | (rw [hy348]; exact H) | exact H
                have Ny348 := Aside0.mk hy348
                clear hy348
                obtain ⟨y349, hy349⟩ : ∃ y_ : List Int, y_ = (y348.set (x4_1 : Int).toNat (rd x0_1 x3_1)) := ⟨_, rfl⟩
                replace H : (winnowlaw13_back.l0 k1 y349 (wrap64 (x3_1 + 1)) (wrap64 (x4_1 - 1))) = some r := by first | (rw [hy349]; with_reducible exact H) | (have H2_ := (Option.bind_some _ _).symm.trans H; rw [hy349]; with_reducible exact H2_) | (have H2_ := (Option.bind_some _ _).symm.trans H; with_reducible exact H2_) | with_reducible exact H | (rw [hy349]; exact H) | exact H
                have Ny349 := Aside0.mk hy349
                clear hy349
                have H' := Aside0.mk H
                clear H
                have p346 : 0 ≤ (x3_1 : Int) := of_decide_eq_true (by first | (with_reducible assumption) | assumption)
                have q346 : x3_1 < (x0_1.length : Int) := of_decide_eq_true (by first | (with_reducible assumption) | assumption)
                obtain ⟨ad346, e346, hx346_0⟩ := Kd.at_int (Kd.R_reads' HO_0.out).2.2 x3_1 p346 q346
                cases e346
                replace p346 := eq_true p346
                replace q346 := eq_true q346
                have p347 : 0 ≤ (x4_1 : Int) := of_decide_eq_true (by first | (with_reducible assumption) | assumption)
                have q347 : x4_1 < (x0_1.length : Int) := of_decide_eq_true (by first | (with_reducible assumption) | assumption)
                obtain ⟨ad347, e347, hx347_0⟩ := Kd.at_int (Kd.R_reads' HO_0.out).2.2 x4_1 p347 q347
                obtain rfl : ad346 = ad347 := (by injection e347)
                replace p347 := eq_true p347
                replace q347 := eq_true q347
                have p8 : 0 ≤ (x3_1 : Int) := of_decide_eq_true (by first | (with_reducible assumption) | assumption)
                have q8 : (x3_1 : Int) < ((x0_1.length : Int) : Int) := of_decide_eq_true (by first | (with_reducible assumption) | assumption)
                obtain ⟨go8, co8, eo8, gb8, gl8, cl8, HG8⟩ := Kd.R_form HO_0.out (by omega)
                (first | cases eo8 | (injection eo8 with ea_ en_ ec_; (first | subst ea_ | (injection ea_ with ea_; subst ea_)); subst ec_; clear en_))
                have GB8 := Aside0.mk gb8
                have GG8 := Aside0.mk HG8
                clear gb8 gl8 HG8
                have HMgo8 := Aside0.mk (show (P0_ go8 ∨ w.heap.size ≤ go8) from (HO_0.out.1 _ rfl))
                (first | simp only [add_plain] at hx346_0 | skip)
                (first | simp only [add_plain] at hx347_0 | skip)
                obtain ⟨hx8_0, hf8_0⟩ := Kd.R_celln 0 HO_0.out (x3_1 : Int) p8 q8
                replace p8 := eq_true p8
                replace q8 := eq_true q8
                have HP10 := Kd.R_putg HO_0.out (x3_1 : Int) (rd x0_1 x4_1)
                go_wp2_with (first | ((with_reducible refine gate_store (t := 3) (p := 27) rfl ?_); refine store_event (t := 3) (p := 27) (v := ?vo_w11) (w1 := (wr.setCell ⟨go8, (x3_1 : Int).toNat, none⟩ (.int .i64 (rd x0_1 x4_1)))) ?hg ?ho ?hn ?hr ?_; (case ho => rfl); (case hg => rfl); (case hn => rfl); (case hr => first | (go_simp; done) | (go_simp; rfl)); intro w11 hw; have hg : wr.grownBy w11 (some go8) := (by rw [hw]; exact HP10.2); have hp_ : Kd.R (Kd.int .i64) 3 w11 w0.heap.size (fun k_ => (P0_ k_ ∨ w.heap.size ≤ k_)) (.slice (some ⟨go8, 0, none⟩) x0_1.length co2) y348 := (by rw [hw, Ny348.out]; exact HP10.1); clear HP10; have n0_ := Aside0.mk (hp_); have n1_ := Aside0.mk ((by rw [hw]; exact below_set (HB.out) GB8.out : Below w0.heap.size w0 w11)); have n2_ := Aside0.mk (Kept.of_grown (S := (fun k_ => P0_ k_)) hg (by repeat (first | (with_reducible first | exact HK.out | apply Kept.alloc | apply Kept.drewN | apply Kept.drew) | exact HK.out)) (fun k_ e_ => (HO_0.out.1 k_ e_))); clear HO_0; clear HB; clear HK; have HO_0 := n0_; have HB := n1_; have HK := n2_; clear n0_ n1_ n2_; clear hg hw hp_; have p9 : 0 ≤ (x4_1 : Int) := of_decide_eq_true (by first | (with_reducible assumption) | assumption); have q9 : (x4_1 : Int) < ((x0_1.length : Int) : Int) := of_decide_eq_true (by first | (with_reducible assumption) | assumption); obtain ⟨hx9_0, hf9_0⟩ := Kd.R_celln 0 HO_0.out (x4_1 : Int) p9 q9; replace p9 := eq_true p9; replace q9 := eq_true q9; obtain ⟨hy12_, hz12_⟩ := Kd.R_celln 0 HO_0.out (x4_1 : Int) (of_decide_eq_true (by first | (with_reducible assumption) | assumption)) (of_decide_eq_true (by first | (with_reducible assumption) | assumption)); have HP12 := Kd.R_putg HO_0.out (x4_1 : Int) (rd x0_1 x3_1)) | ((with_reducible refine gate_store (t := 3) (p := 31) rfl ?_); refine store_event (t := 3) (p := 31) (v := ?vo_w13) (w1 := (w11.setCell ⟨go8, (x4_1 : Int).toNat, none⟩ (.int .i64 (rd x0_1 x3_1)))) ?hg ?ho ?hn ?hr ?_; (case ho => rfl); (case hg => rfl); (case hn => rfl); (case hr => first | (go_simp; done) | (go_simp; rfl)); intro w13 hw; have hg : w11.grownBy w13 (some go8) := (by rw [hw]; exact HP12.2); have hp_ : Kd.R (Kd.int .i64) 3 w13 w0.heap.size (fun k_ => (P0_ k_ ∨ w.heap.size ≤ k_)) (.slice (some ⟨go8, 0, none⟩) x0_1.length co2) y349 := (by rw [hw, Ny349.out]; exact HP12.1); clear HP12; have n0_ := Aside0.mk (hp_); have n1_ := Aside0.mk ((by rw [hw]; exact below_set (HB.out) GB8.out : Below w0.heap.size w0 w13)); have n2_ := Aside0.mk (Kept.of_grown (S := (fun k_ => P0_ k_)) hg (by repeat (first | (with_reducible first | exact HK.out | apply Kept.alloc | apply Kept.drewN | apply Kept.drew) | exact HK.out)) (fun k_ e_ => (HO_0.out.1 k_ e_))); clear HO_0; clear HB; clear HK; have HO_0 := n0_; have HB := n1_; have HK := n2_; clear n0_ n1_ n2_; clear hg hw hp_))
                (try simp only [← hl0_1])
                go_roundg k1
                case measure => have := HK1.out; omega
                case rel => exact ⟨(y349), (wrap64 (x3_1 + 1)), (wrap64 (x4_1 - 1)), (by first | rfl | (simp; done) | (simp [*]; done)), (by first | rfl | (simp; done) | (simp [*]; done)), H', ⟨by have := HK1.out; omega⟩, ⟨by (try simp only [hl0_1]); (with_reducible repeat (first | apply Kd.R_alloc | apply Kd.R_drewN | apply Kd.R_drew)); exact HO_0.out⟩, ⟨by repeat (first | (with_reducible first | exact HK.out | apply Kept.alloc | apply Kept.drewN | apply Kept.drew) | exact HK.out)⟩, ⟨by repeat (first | (with_reducible first | exact HB.out | apply below_alloc | apply pw_below_drewN | apply below_drew1) | exact HB.out)⟩⟩
              · rw [if_neg c7] at H
                exact absurd H (by simp)
            · rw [if_neg c6] at H
              exact absurd H (by simp)
          · rw [if_neg c5] at H
            exact absurd H (by simp)
        · rw [if_neg c4] at H
          exact absurd H (by simp)
      · rw [if_neg c3] at H
        have c3b0 : decide (x3_1 < x4_1) = false := decide_eq_false c3
        clear c3
        have H' := Aside0.mk H
        clear H
        go_wp2
        go_loopg [6] k1 (fun kq v6 w' => ∃ (x0_2 : List Int) (x6_2 : Int), v6 = .int .i64 x6_2 ∧ Aside0 (winnowlaw13_back.l1 kq x0_2 x6_2 = some r) ∧ Aside0 (kq ≤ k1) ∧ Aside0 (Kd.R (Kd.int .i64) 3 w' w0.heap.size (fun k_ => (P0_ k_ ∨ w.heap.size ≤ k_)) (.slice Ao2 x0_1.length co2) x0_2) ∧ Aside0 (Kept w w' (fun k_ => P0_ k_)) ∧ Aside0 (Below w0.heap.size w0 w'))
        case atStart => exact ⟨(x0_1), (0), (by first | rfl | (simp; done) | (simp [*]; done)), H', ⟨Nat.le_refl _⟩, ⟨by (try simp only [hl0_1]); (with_reducible repeat (first | apply Kd.R_alloc | apply Kd.R_drewN | apply Kd.R_drew)); exact HO_0.out⟩, ⟨by repeat (first | (with_reducible first | exact HK.out | apply Kept.alloc | apply Kept.drewN | apply Kept.drew) | exact HK.out)⟩, ⟨by repeat (first | (with_reducible first | exact HB.out | apply below_alloc | apply pw_below_drewN | apply below_drew1) | exact HB.out)⟩⟩
        case round =>
          clear H'
          try clear c2
          try clear p2
          try clear c3
          try clear c3b0
          try clear p3
          try clear q3
          try clear hx3
          try clear c4
          try clear c4b0
          try clear c5
          try clear c5b0
          try clear c6
          try clear c6b0
          try clear p6
          try clear c7
          try clear c7b0
          try clear p8
          try clear q8
          try clear hx8
          try clear hf8
          try clear p9
          try clear q9
          try clear hx9
          try clear hf9
          try clear hx346_0
          try clear hx347_0
          try clear hx8_0
          try clear hx9_0
          try clear p2
          try clear p346
          try clear p347
          try clear p8
          try clear p9
          try clear q346
          try clear q347
          try clear q8
          try clear q9
          obtain ⟨x0_2, x6_2, rfl, HA, HK2, HO_0, HK, HB⟩ := hrel
          have hl0_2 := (Kd.R_reads' HO_0.out).1
          rw [hl0_2] at HO_0
          (try simp only [hl0_2])
          cases gk with
          | zero => exact absurd HA.out (by simp [winnowlaw13_back.l1])
          | succ k2 =>
            have H := HA.out
            clear HA
            simp only [winnowlaw13_back.l1] at H
            by_cases c14 : x6_2 < (x0_2.length : Int)
            · rw [if_pos c14] at H
              have c14b0 : decide (x6_2 < (x0_2.length : Int)) = true := decide_eq_true c14
              clear c14
              by_cases c15 : 0 ≤ x6_2
              · rw [if_pos c15] at H
                have c15b0 : decide (0 ≤ x6_2) = true := decide_eq_true c15
                clear c15
                obtain ⟨y351, hy351⟩ : ∃ y_ : List Int, y_ = (x0_2.set (x6_2 : Int).toNat (wrap64 ((rd x0_2 x6_2) + 1))) := ⟨_, rfl⟩
                replace H : (winnowlaw13_back.l1 k2 y351 (wrap64 (x6_2 + 1))) = some r := by first | (rw [hy351]; with_reducible exact H) | (have H2_ := (Option.bind_some _ _).symm.trans H; rw [hy351]; with_reducible exact H2_) | (have H2_ := (Option.bind_some _ _).symm.trans H; with_reducible exact H2_) | with_reducible exact H | (rw [hy351]; exact H) | exact H
                have Ny351 := Aside0.mk hy351
                clear hy351
                have H' := Aside0.mk H
                clear H
                have p350 : 0 ≤ (x6_2 : Int) := of_decide_eq_true (by first | (with_reducible assumption) | assumption)
                have q350 : x6_2 < (x0_2.length : Int) := of_decide_eq_true (by first | (with_reducible assumption) | assumption)
                obtain ⟨ad350, e350, hx350_0⟩ := Kd.at_int (Kd.R_reads' HO_0.out).2.2 x6_2 p350 q350
                cases e350
                replace p350 := eq_true p350
                replace q350 := eq_true q350
                have p16 : 0 ≤ (x6_2 : Int) := of_decide_eq_true (by first | (with_reducible assumption) | assumption)
                have q16 : (x6_2 : Int) < ((x0_2.length : Int) : Int) := of_decide_eq_true (by first | (with_reducible assumption) | assumption)
                obtain ⟨go16, co16, eo16, gb16, gl16, cl16, HG16⟩ := Kd.R_form HO_0.out (by omega)
                (first | cases eo16 | (injection eo16 with ea_ en_ ec_; (first | subst ea_ | (injection ea_ with ea_; subst ea_)); subst ec_; clear en_))
                have GB16 := Aside0.mk gb16
                have GG16 := Aside0.mk HG16
                clear gb16 gl16 HG16
                have HMgo16 := Aside0.mk (show (P0_ go16 ∨ w.heap.size ≤ go16) from (HO_0.out.1 _ rfl))
                (first | simp only [add_plain] at hx350_0 | skip)
                obtain ⟨hx16_0, hf16_0⟩ := Kd.R_celln 0 HO_0.out (x6_2 : Int) p16 q16
                replace p16 := eq_true p16
                replace q16 := eq_true q16
                have HP17 := Kd.R_putg HO_0.out (x6_2 : Int) (wrap64 ((rd x0_2 x6_2) + 1))
                go_wp2_with (first | ((with_reducible refine gate_store (t := 3) (p := 45) rfl ?_); refine store_event (t := 3) (p := 45) (v := ?vo_w18) (w1 := (wr.setCell ⟨go16, (x6_2 : Int).toNat, none⟩ (.int .i64 (wrap64 ((rd x0_2 x6_2) + 1))))) ?hg ?ho ?hn ?hr ?_; (case ho => rfl); (case hg => rfl); (case hn => rfl); (case hr => first | (go_simp; done) | (go_simp; rfl)); intro w18 hw; have hg : wr.grownBy w18 (some go16) := (by rw [hw]; exact HP17.2); have hp_ : Kd.R (Kd.int .i64) 3 w18 w0.heap.size (fun k_ => (P0_ k_ ∨ w.heap.size ≤ k_)) (.slice (some ⟨go16, 0, none⟩) x0_2.length co2) y351 := (by rw [hw, Ny351.out]; exact HP17.1); clear HP17; have n0_ := Aside0.mk (hp_); have n1_ := Aside0.mk ((by rw [hw]; exact below_set (HB.out) GB16.out : Below w0.heap.size w0 w18)); have n2_ := Aside0.mk (Kept.of_grown (S := (fun k_ => P0_ k_)) hg (by repeat (first | (with_reducible first | exact HK.out | apply Kept.alloc | apply Kept.drewN | apply Kept.drew) | exact HK.out)) (fun k_ e_ => (HO_0.out.1 k_ e_))); clear HO_0; clear HB; clear HK; have HO_0 := n0_; have HB := n1_; have HK := n2_; clear n0_ n1_ n2_; clear hg hw hp_))
                (try simp only [← hl0_2])
                go_roundg k2
                case measure => have := HK1.out; have := HK2.out; omega
                case rel => exact ⟨(y351), (wrap64 (x6_2 + 1)), (by first | rfl | (simp; done) | (simp [*]; done)), H', ⟨by have := HK1.out; have := HK2.out; omega⟩, ⟨by (try simp only [hl0_1]); (try simp only [hl0_2]); (with_reducible repeat (first | apply Kd.R_alloc | apply Kd.R_drewN | apply Kd.R_drew)); exact HO_0.out⟩, ⟨by repeat (first | (with_reducible first | exact HK.out | apply Kept.alloc | apply Kept.drewN | apply Kept.drew) | exact HK.out)⟩, ⟨by repeat (first | (with_reducible first | exact HB.out | apply below_alloc | apply pw_below_drewN | apply below_drew1) | exact HB.out)⟩⟩
              · rw [if_neg c15] at H
                exact absurd H (by simp)
            · rw [if_neg c14] at H
              have c14b0 : decide (x6_2 < (x0_2.length : Int)) = false := decide_eq_false c14
              clear c14
              obtain rfl := Option.some.inj H
              go_wp2
              go_ret
              exact ⟨_, by first | rfl | (simp [errW_none, errW_some] <;> rfl) | (simp [*, errW_none, errW_some] <;> rfl), by (with_reducible repeat (first | apply Kd.R_alloc | apply Kd.R_drewN | apply Kd.R_drew)); exact HO_0.out, by repeat (first | (with_reducible first | exact HB.out | apply below_alloc | apply pw_below_drewN | apply below_drew1) | exact HB.out), by repeat (first | (with_reducible first | exact HK.out | apply Kept.alloc | apply Kept.drewN | apply Kept.drew) | exact HK.out)⟩

end Go.Proofs.Ytbcggfjfgoabpaa.P

end
section
/- winnowlaw13_back answers the very slice that it is handed. The printed walk, its promise made sharper (wip/tools/sharpen.py). -/
namespace Go.Proofs.Ytbcggfjfgoabpaa.P
open Go.RowKit Go.Proofs.YtbcggfjfgoabpaaW.PrintWords Go.Proofs.YtbcggfjfgoabpaaW.PrintLast Go.Proofs.YtbcggfjfgoabpaaW.PrintMore
attribute [local go_sem] max2_int min2_int max_two min_two max_three min_three max_four min_four
set_option linter.unusedVariables false
set_option linter.unusedSimpArgs false
set_option maxHeartbeats 8000000 in
set_option maxRecDepth 100000 in
theorem winnowlaw13_back.calls_in (k : Nat) (P0_ : Nat → Prop) (u9000_ : Value) (l0 : List Int) (r : List Int) (w0 w : World) (hB : Below w0.heap.size w0 w) (ho0 : Kd.R (Kd.int .i64) 3 w w0.heap.size P0_ u9000_ l0) (h : winnowlaw13_back.f k l0 = some r) :
    Calls Try.prog 23 #[u9000_] w fun e w' => e = .returned (u9000_) ∧ Kd.R (Kd.int .i64) 3 w' w0.heap.size (fun k_ => (P0_ k_ ∨ w.heap.size ≤ k_)) u9000_ r ∧ Below w0.heap.size w0 w' ∧ Kept w w' (fun k_ => P0_ k_) := by
  have HO0 := Aside0.mk (show Kd.R (Kd.int .i64) 3 w w0.heap.size (fun k_ => (P0_ k_ ∨ w.heap.size ≤ k_)) u9000_ l0 from Kd.R_mono ho0 (fun k_ hk => (.inl hk)))
  have HK := Aside0.mk (Kept.refl w (fun k_ => P0_ k_))
  have HW0 := Aside0.mk hB.size
  have HB := Aside0.mk hB
  clear hB
  have H : (winnowlaw13_back.l0 k l0 0 (wrap64 ((l0.length : Int) - 1))) = some r := h
  clear h
  have H' := Aside0.mk H
  clear H
  obtain ⟨Ao2, co2, eo2⟩ := Kd.R_slice HO0.out
  subst eo2
  go_enter Try.func23, Try.ntmps23
  go_wp2
  go_loopg [3, 4] k (fun kq v3 v4 w' => ∃ (x0_1 : List Int) (x3_1 : Int) (x4_1 : Int), v3 = .int .i64 x3_1 ∧ v4 = .int .i64 x4_1 ∧ Aside0 (winnowlaw13_back.l0 kq x0_1 x3_1 x4_1 = some r) ∧ Aside0 (kq ≤ k) ∧ Aside0 (Kd.R (Kd.int .i64) 3 w' w0.heap.size (fun k_ => (P0_ k_ ∨ w.heap.size ≤ k_)) (.slice Ao2 l0.length co2) x0_1) ∧ Aside0 (Kept w w' (fun k_ => P0_ k_)) ∧ Aside0 (Below w0.heap.size w0 w'))
  case atStart => exact ⟨(l0), (0), (wrap64 ((l0.length : Int) - 1)), (by first | rfl | (simp; done) | (simp [*]; done)), (by first | rfl | (simp; done) | (simp [*]; done)), H', ⟨Nat.le_refl _⟩, ⟨by (with_reducible repeat (first | apply Kd.R_alloc | apply Kd.R_drewN | apply Kd.R_drew)); exact HO0.out⟩, ⟨by repeat (first | (with_reducible first | exact HK.out | apply Kept.alloc | apply Kept.drewN | apply Kept.drew) | exact HK.out)⟩, ⟨by repeat (first | (with_reducible first | exact HB.out | apply below_alloc | apply pw_below_drewN | apply below_drew1) | exact HB.out)⟩⟩
  case round =>
    clear H'
    try clear c2
    try clear p2
    obtain ⟨x0_1, x3_1, x4_1, rfl, rfl, HA, HK1, HO_0, HK, HB⟩ := hrel
    have hl0_1 := (Kd.R_reads' HO_0.out).1
    rw [hl0_1] at HO_0
    (try simp only [hl0_1])
    cases gk with
    | zero => exact absurd HA.out (by simp [winnowlaw13_back.l0])
    | succ k1 =>
      have H := HA.out
      clear HA
      simp only [winnowlaw13_back.l0] at H
      by_cases c3 : x3_1 < x4_1
      · rw [if_pos c3] at H
        have c3b0 : decide (x3_1 < x4_1) = true := decide_eq_true c3
        clear c3
        by_cases c4 : 0 ≤ x3_1
        · rw [if_pos c4] at H
          have c4b0 : decide (0 ≤ x3_1) = true := decide_eq_true c4
          clear c4
          by_cases c5 : x3_1 < (x0_1.length : Int)
          · rw [if_pos c5] at H
            have c5b0 : decide (x3_1 < (x0_1.length : Int)) = true := decide_eq_true c5
            clear c5
            by_cases c6 : 0 ≤ x4_1
            · rw [if_pos c6] at H
              have c6b0 : decide (0 ≤ x4_1) = true := decide_eq_true c6
              clear c6
              by_cases c7 : x4_1 < (x0_1.length : Int)
              · rw [if_pos c7] at H
                have c7b0 : decide (x4_1 < (x0_1.length : Int)) = true := decide_eq_true c7
                clear c7
                obtain ⟨y348, hy348⟩ : ∃ y_ : List Int, y_ = (x0_1.set (x3_1 : Int).toNat (rd x0_1 x4_1)) := ⟨_, rfl⟩
                replace H : (winnowlaw13_back.l0 k1 (y348.set (x4_1 : Int).toNat (rd x0_1 x3_1)) (wrap64 (x3_1 + 1)) (wrap64 (x4_1 - 1))) = some r := by first | (rw [hy348]; with_reducible exact H) | (have H2_ := (Option.bind_some _ _).symm.trans H; rw [hy348]; with_reducible exact H2_) | (have H2_ := (Option.bind_some _ _).symm.trans H; with_reducible exact H2_) | with_reducible exact H | (rw [hy348]; exact H) | exact H
                have Ny348 := Aside0.mk hy348
                clear hy348
                obtain ⟨y349, hy349⟩ : ∃ y_ : List Int, y_ = (y348.set (x4_1 : Int).toNat (rd x0_1 x3_1)) := ⟨_, rfl⟩
                replace H : (winnowlaw13_back.l0 k1 y349 (wrap64 (x3_1 + 1)) (wrap64 (x4_1 - 1))) = some r := by first | (rw [hy349]; with_reducible exact H) | (have H2_ := (Option.bind_some _ _).symm.trans H; rw [hy349]; with_reducible exact H2_) | (have H2_ := (Option.bind_some _ _).symm.trans H; with_reducible exact H2_) | with_reducible exact H | (rw [hy349]; exact H) | exact H
                have Ny349 := Aside0.mk hy349
                clear hy349
                have H' := Aside0.mk H
                clear H
                have p346 : 0 ≤ (x3_1 : Int) := of_decide_eq_true (by first | (with_reducible assumption) | assumption)
                have q346 : x3_1 < (x0_1.length : Int) := of_decide_eq_true (by first | (with_reducible assumption) | assumption)
                obtain ⟨ad346, e346, hx346_0⟩ := Kd.at_int (Kd.R_reads' HO_0.out).2.2 x3_1 p346 q346
                cases e346
                replace p346 := eq_true p346
                replace q346 := eq_true q346
                have p347 : 0 ≤ (x4_1 : Int) := of_decide_eq_true (by first | (with_reducible assumption) | assumption)
                have q347 : x4_1 < (x0_1.length : Int) := of_decide_eq_true (by first | (with_reducible assumption) | assumption)
                obtain ⟨ad347, e347, hx347_0⟩ := Kd.at_int (Kd.R_reads' HO_0.out).2.2 x4_1 p347 q347
                obtain rfl : ad346 = ad347 := (by injection e347)
                replace p347 := eq_true p347
                replace q347 := eq_true q347
                have p8 : 0 ≤ (x3_1 : Int) := of_decide_eq_true (by first | (with_reducible assumption) | assumption)
                have q8 : (x3_1 : Int) < ((x0_1.length : Int) : Int) := of_decide_eq_true (by first | (with_reducible assumption) | assumption)
                obtain ⟨go8, co8, eo8, gb8, gl8, cl8, HG8⟩ := Kd.R_form HO_0.out (by omega)
                (first | cases eo8 | (injection eo8 with ea_ en_ ec_; (first | subst ea_ | (injection ea_ with ea_; subst ea_)); subst ec_; clear en_))
                have GB8 := Aside0.mk gb8
                have GG8 := Aside0.mk HG8
                clear gb8 gl8 HG8
                have HMgo8 := Aside0.mk (show (P0_ go8 ∨ w.heap.size ≤ go8) from (HO_0.out.1 _ rfl))
                (first | simp only [add_plain] at hx346_0 | skip)
                (first | simp only [add_plain] at hx347_0 | skip)
                obtain ⟨hx8_0, hf8_0⟩ := Kd.R_celln 0 HO_0.out (x3_1 : Int) p8 q8
                replace p8 := eq_true p8
                replace q8 := eq_true q8
                have HP10 := Kd.R_putg HO_0.out (x3_1 : Int) (rd x0_1 x4_1)
                go_wp2_with (first | ((with_reducible refine gate_store (t := 3) (p := 27) rfl ?_); refine store_event (t := 3) (p := 27) (v := ?vo_w11) (w1 := (wr.setCell ⟨go8, (x3_1 : Int).toNat, none⟩ (.int .i64 (rd x0_1 x4_1)))) ?hg ?ho ?hn ?hr ?_; (case ho => rfl); (case hg => rfl); (case hn => rfl); (case hr => first | (go_simp; done) | (go_simp; rfl)); intro w11 hw; have hg : wr.grownBy w11 (some go8) := (by rw [hw]; exact HP10.2); have hp_ : Kd.R (Kd.int .i64) 3 w11 w0.heap.size (fun k_ => (P0_ k_ ∨ w.heap.size ≤ k_)) (.slice (some ⟨go8, 0, none⟩) x0_1.length co2) y348 := (by rw [hw, Ny348.out]; exact HP10.1); clear HP10; have n0_ := Aside0.mk (hp_); have n1_ := Aside0.mk ((by rw [hw]; exact below_set (HB.out) GB8.out : Below w0.heap.size w0 w11)); have n2_ := Aside0.mk (Kept.of_grown (S := (fun k_ => P0_ k_)) hg (by repeat (first | (with_reducible first | exact HK.out | apply Kept.alloc | apply Kept.drewN | apply Kept.drew) | exact HK.out)) (fun k_ e_ => (HO_0.out.1 k_ e_))); clear HO_0; clear HB; clear HK; have HO_0 := n0_; have HB := n1_; have HK := n2_; clear n0_ n1_ n2_; clear hg hw hp_; have p9 : 0 ≤ (x4_1 : Int) := of_decide_eq_true (by first | (with_reducible assumption) | assumption); have q9 : (x4_1 : Int) < ((x0_1.length : Int) : Int) := of_decide_eq_true (by first | (with_reducible assumption) | assumption); obtain ⟨hx9_0, hf9_0⟩ := Kd.R_celln 0 HO_0.out (x4_1 : Int) p9 q9; replace p9 := eq_true p9; replace q9 := eq_true q9; obtain ⟨hy12_, hz12_⟩ := Kd.R_celln 0 HO_0.out (x4_1 : Int) (of_decide_eq_true (by first | (with_reducible assumption) | assumption)) (of_decide_eq_true (by first | (with_reducible assumption) | assumption)); have HP12 := Kd.R_putg HO_0.out (x4_1 : Int) (rd x0_1 x3_1)) | ((with_reducible refine gate_store (t := 3) (p := 31) rfl ?_); refine store_event (t := 3) (p := 31) (v := ?vo_w13) (w1 := (w11.setCell ⟨go8, (x4_1 : Int).toNat, none⟩ (.int .i64 (rd x0_1 x3_1)))) ?hg ?ho ?hn ?hr ?_; (case ho => rfl); (case hg => rfl); (case hn => rfl); (case hr => first | (go_simp; done) | (go_simp; rfl)); intro w13 hw; have hg : w11.grownBy w13 (some go8) := (by rw [hw]; exact HP12.2); have hp_ : Kd.R (Kd.int .i64) 3 w13 w0.heap.size (fun k_ => (P0_ k_ ∨ w.heap.size ≤ k_)) (.slice (some ⟨go8, 0, none⟩) x0_1.length co2) y349 := (by rw [hw, Ny349.out]; exact HP12.1); clear HP12; have n0_ := Aside0.mk (hp_); have n1_ := Aside0.mk ((by rw [hw]; exact below_set (HB.out) GB8.out : Below w0.heap.size w0 w13)); have n2_ := Aside0.mk (Kept.of_grown (S := (fun k_ => P0_ k_)) hg (by repeat (first | (with_reducible first | exact HK.out | apply Kept.alloc | apply Kept.drewN | apply Kept.drew) | exact HK.out)) (fun k_ e_ => (HO_0.out.1 k_ e_))); clear HO_0; clear HB; clear HK; have HO_0 := n0_; have HB := n1_; have HK := n2_; clear n0_ n1_ n2_; clear hg hw hp_))
                (try simp only [← hl0_1])
                go_roundg k1
                case measure => have := HK1.out; omega
                case rel => exact ⟨(y349), (wrap64 (x3_1 + 1)), (wrap64 (x4_1 - 1)), (by first | rfl | (simp; done) | (simp [*]; done)), (by first | rfl | (simp; done) | (simp [*]; done)), H', ⟨by have := HK1.out; omega⟩, ⟨by (try simp only [hl0_1]); (with_reducible repeat (first | apply Kd.R_alloc | apply Kd.R_drewN | apply Kd.R_drew)); exact HO_0.out⟩, ⟨by repeat (first | (with_reducible first | exact HK.out | apply Kept.alloc | apply Kept.drewN | apply Kept.drew) | exact HK.out)⟩, ⟨by repeat (first | (with_reducible first | exact HB.out | apply below_alloc | apply pw_below_drewN | apply below_drew1) | exact HB.out)⟩⟩
              · rw [if_neg c7] at H
                exact absurd H (by simp)
            · rw [if_neg c6] at H
              exact absurd H (by simp)
          · rw [if_neg c5] at H
            exact absurd H (by simp)
        · rw [if_neg c4] at H
          exact absurd H (by simp)
      · rw [if_neg c3] at H
        have c3b0 : decide (x3_1 < x4_1) = false := decide_eq_false c3
        clear c3
        have H' := Aside0.mk H
        clear H
        go_wp2
        go_loopg [6] k1 (fun kq v6 w' => ∃ (x0_2 : List Int) (x6_2 : Int), v6 = .int .i64 x6_2 ∧ Aside0 (winnowlaw13_back.l1 kq x0_2 x6_2 = some r) ∧ Aside0 (kq ≤ k1) ∧ Aside0 (Kd.R (Kd.int .i64) 3 w' w0.heap.size (fun k_ => (P0_ k_ ∨ w.heap.size ≤ k_)) (.slice Ao2 x0_1.length co2) x0_2) ∧ Aside0 (Kept w w' (fun k_ => P0_ k_)) ∧ Aside0 (Below w0.heap.size w0 w'))
        case atStart => exact ⟨(x0_1), (0), (by first | rfl | (simp; done) | (simp [*]; done)), H', ⟨Nat.le_refl _⟩, ⟨by (try simp only [hl0_1]); (with_reducible repeat (first | apply Kd.R_alloc | apply Kd.R_drewN | apply Kd.R_drew)); exact HO_0.out⟩, ⟨by repeat (first | (with_reducible first | exact HK.out | apply Kept.alloc | apply Kept.drewN | apply Kept.drew) | exact HK.out)⟩, ⟨by repeat (first | (with_reducible first | exact HB.out | apply below_alloc | apply pw_below_drewN | apply below_drew1) | exact HB.out)⟩⟩
        case round =>
          clear H'
          try clear c2
          try clear p2
          try clear c3
          try clear c3b0
          try clear p3
          try clear q3
          try clear hx3
          try clear c4
          try clear c4b0
          try clear c5
          try clear c5b0
          try clear c6
          try clear c6b0
          try clear p6
          try clear c7
          try clear c7b0
          try clear p8
          try clear q8
          try clear hx8
          try clear hf8
          try clear p9
          try clear q9
          try clear hx9
          try clear hf9
          try clear hx346_0
          try clear hx347_0
          try clear hx8_0
          try clear hx9_0
          try clear p2
          try clear p346
          try clear p347
          try clear p8
          try clear p9
          try clear q346
          try clear q347
          try clear q8
          try clear q9
          obtain ⟨x0_2, x6_2, rfl, HA, HK2, HO_0, HK, HB⟩ := hrel
          have hl0_2 := (Kd.R_reads' HO_0.out).1
          rw [hl0_2] at HO_0
          (try simp only [hl0_2])
          cases gk with
          | zero => exact absurd HA.out (by simp [winnowlaw13_back.l1])
          | succ k2 =>
            have H := HA.out
            clear HA
            simp only [winnowlaw13_back.l1] at H
            by_cases c14 : x6_2 < (x0_2.length : Int)
            · rw [if_pos c14] at H
              have c14b0 : decide (x6_2 < (x0_2.length : Int)) = true := decide_eq_true c14
              clear c14
              by_cases c15 : 0 ≤ x6_2
              · rw [if_pos c15] at H
                have c15b0 : decide (0 ≤ x6_2) = true := decide_eq_true c15
                clear c15
                obtain ⟨y351, hy351⟩ : ∃ y_ : List Int, y_ = (x0_2.set (x6_2 : Int).toNat (wrap64 ((rd x0_2 x6_2) + 1))) := ⟨_, rfl⟩
                replace H : (winnowlaw13_back.l1 k2 y351 (wrap64 (x6_2 + 1))) = some r := by first | (rw [hy351]; with_reducible exact H) | (have H2_ := (Option.bind_some _ _).symm.trans H; rw [hy351]; with_reducible exact H2_) | (have H2_ := (Option.bind_some _ _).symm.trans H; with_reducible exact H2_) | with_reducible exact H | (rw [hy351]; exact H) | exact H
                have Ny351 := Aside0.mk hy351
                clear hy351
                have H' := Aside0.mk H
                clear H
                have p350 : 0 ≤ (x6_2 : Int) := of_decide_eq_true (by first | (with_reducible assumption) | assumption)
                have q350 : x6_2 < (x0_2.length : Int) := of_decide_eq_true (by first | (with_reducible assumption) | assumption)
                obtain ⟨ad350, e350, hx350_0⟩ := Kd.at_int (Kd.R_reads' HO_0.out).2.2 x6_2 p350 q350
                cases e350
                replace p350 := eq_true p350
                replace q350 := eq_true q350
                have p16 : 0 ≤ (x6_2 : Int) := of_decide_eq_true (by first | (with_reducible assumption) | assumption)
                have q16 : (x6_2 : Int) < ((x0_2.length : Int) : Int) := of_decide_eq_true (by first | (with_reducible assumption) | assumption)
                obtain ⟨go16, co16, eo16, gb16, gl16, cl16, HG16⟩ := Kd.R_form HO_0.out (by omega)
                (first | cases eo16 | (injection eo16 with ea_ en_ ec_; (first | subst ea_ | (injection ea_ with ea_; subst ea_)); subst ec_; clear en_))
                have GB16 := Aside0.mk gb16
                have GG16 := Aside0.mk HG16
                clear gb16 gl16 HG16
                have HMgo16 := Aside0.mk (show (P0_ go16 ∨ w.heap.size ≤ go16) from (HO_0.out.1 _ rfl))
                (first | simp only [add_plain] at hx350_0 | skip)
                obtain ⟨hx16_0, hf16_0⟩ := Kd.R_celln 0 HO_0.out (x6_2 : Int) p16 q16
                replace p16 := eq_true p16
                replace q16 := eq_true q16
                have HP17 := Kd.R_putg HO_0.out (x6_2 : Int) (wrap64 ((rd x0_2 x6_2) + 1))
                go_wp2_with (first | ((with_reducible refine gate_store (t := 3) (p := 45) rfl ?_); refine store_event (t := 3) (p := 45) (v := ?vo_w18) (w1 := (wr.setCell ⟨go16, (x6_2 : Int).toNat, none⟩ (.int .i64 (wrap64 ((rd x0_2 x6_2) + 1))))) ?hg ?ho ?hn ?hr ?_; (case ho => rfl); (case hg => rfl); (case hn => rfl); (case hr => first | (go_simp; done) | (go_simp; rfl)); intro w18 hw; have hg : wr.grownBy w18 (some go16) := (by rw [hw]; exact HP17.2); have hp_ : Kd.R (Kd.int .i64) 3 w18 w0.heap.size (fun k_ => (P0_ k_ ∨ w.heap.size ≤ k_)) (.slice (some ⟨go16, 0, none⟩) x0_2.length co2) y351 := (by rw [hw, Ny351.out]; exact HP17.1); clear HP17; have n0_ := Aside0.mk (hp_); have n1_ := Aside0.mk ((by rw [hw]; exact below_set (HB.out) GB16.out : Below w0.heap.size w0 w18)); have n2_ := Aside0.mk (Kept.of_grown (S := (fun k_ => P0_ k_)) hg (by repeat (first | (with_reducible first | exact HK.out | apply Kept.alloc | apply Kept.drewN | apply Kept.drew) | exact HK.out)) (fun k_ e_ => (HO_0.out.1 k_ e_))); clear HO_0; clear HB; clear HK; have HO_0 := n0_; have HB := n1_; have HK := n2_; clear n0_ n1_ n2_; clear hg hw hp_))
                (try simp only [← hl0_2])
                go_roundg k2
                case measure => have := HK1.out; have := HK2.out; omega
                case rel => exact ⟨(y351), (wrap64 (x6_2 + 1)), (by first | rfl | (simp; done) | (simp [*]; done)), H', ⟨by have := HK1.out; have := HK2.out; omega⟩, ⟨by (try simp only [hl0_1]); (try simp only [hl0_2]); (with_reducible repeat (first | apply Kd.R_alloc | apply Kd.R_drewN | apply Kd.R_drew)); exact HO_0.out⟩, ⟨by repeat (first | (with_reducible first | exact HK.out | apply Kept.alloc | apply Kept.drewN | apply Kept.drew) | exact HK.out)⟩, ⟨by repeat (first | (with_reducible first | exact HB.out | apply below_alloc | apply pw_below_drewN | apply below_drew1) | exact HB.out)⟩⟩
              · rw [if_neg c15] at H
                exact absurd H (by simp)
            · rw [if_neg c14] at H
              have c14b0 : decide (x6_2 < (x0_2.length : Int)) = false := decide_eq_false c14
              clear c14
              obtain rfl := Option.some.inj H
              go_wp2
              go_ret
              exact ⟨by first | rfl | (simp [errW_none, errW_some] <;> rfl) | (simp [*, errW_none, errW_some] <;> rfl), by (with_reducible repeat (first | apply Kd.R_alloc | apply Kd.R_drewN | apply Kd.R_drew)); exact HO_0.out, by repeat (first | (with_reducible first | exact HB.out | apply below_alloc | apply pw_below_drewN | apply below_drew1) | exact HB.out), by repeat (first | (with_reducible first | exact HK.out | apply Kept.alloc | apply Kept.drewN | apply Kept.drew) | exact HK.out)⟩

end Go.Proofs.Ytbcggfjfgoabpaa.P

end
section
/- The law's helpers on places, in plain lists; the document's Splits. -/
namespace Go.Proofs.Ytbcggfjfgoabpaa.P
open Go.RowKit Go.Proofs.YtbcggfjfgoabpaaW.PrintWords Go.Proofs.YtbcggfjfgoabpaaW.PrintLast
set_option linter.unusedVariables false

theorem wrapP (i : Nat) (h : i ≤ 140737488355328) : wrap64 ((i : Int) + 1) = ((i + 1 : Nat) : Int) := by unfold wrap64; omega
/-! ### roomy -/
def roomI (l : List Int) : List Int := l ++ List.replicate 64 (-7777)
theorem roomI_length (l : List Int) : (roomI l).length = l.length + 64 := by simp [roomI]
theorem roomy_loop (l : List Int) (hl : l.length ≤ 17592186043904) (d : Nat) : ∀ (k i : Nat) (g : List Int), i + d = l.length + 64 → g.length = l.length + 64 → g.take i = (roomI l).take i → d < k →
    winnowlaw13_roomy.l0 k l g (i : Int) = some (roomI l) := by
  induction d with
  | zero =>
    intro k i g hi hg ht hk
    obtain ⟨k, rfl⟩ : ∃ m, k = m + 1 := ⟨k - 1, by omega⟩
    rw [winnowlaw13_roomy.l0, if_neg (by omega)]
    rw [List.take_of_length_le (by omega), List.take_of_length_le (by rw [roomI_length]; omega)] at ht
    rw [ht]
  | succ d ih =>
    intro k i g hi hg ht hk
    obtain ⟨k, rfl⟩ : ∃ m, k = m + 1 := ⟨k - 1, by omega⟩
    have hw := wrapP i (by omega)
    have hrl := roomI_length l
    have step : ∀ (v : Int) (g' : List Int), g'.length = g.length → g'.take i = g.take i → (roomI l)[i]'(by omega) = v → (g'.set i v).take (i + 1) = (roomI l).take (i + 1) := by
      intro v g' hl' ht' hv
      have hs : (g'.set i v).take i = g'.take i := List.take_set_of_le (Nat.le_refl i)
      rw [List.take_succ_eq_append_getElem (by rw [List.length_set]; omega), List.take_succ_eq_append_getElem (by omega), hs, ht', ht, List.getElem_set_self, hv]
    rw [winnowlaw13_roomy.l0, if_pos (by omega), if_pos (Int.natCast_nonneg i), Option.bind_some, Int.toNat_natCast, hw]
    by_cases h : i < l.length
    · rw [if_pos (by omega)]
      refine ih k (i + 1) _ (by omega) (by rw [List.length_set, List.length_set]; exact hg) ?_ (by omega)
      refine step _ _ (by rw [List.length_set]) (List.take_set_of_le (Nat.le_refl i)) ?_
      rw [rdI_nat l i h]
      simp [roomI, h]
    · rw [if_neg (by omega)]
      refine ih k (i + 1) _ (by omega) (by rw [List.length_set]; exact hg) ?_ (by omega)
      refine step (-7777) g rfl rfl ?_
      simp only [roomI]
      rw [List.getElem_append_right (by omega), List.getElem_replicate]
theorem roomy_eq (l : List Int) (hl : l.length ≤ 17592186043904) (k : Nat) (hk : l.length + 64 < k) : winnowlaw13_roomy.f k l = some (roomI l) := by
  have hw : wrap64 ((l.length : Int) + 64) = ((l.length + 64 : Nat) : Int) := by unfold wrap64; omega
  unfold winnowlaw13_roomy.f
  rw [hw, if_pos (Int.natCast_nonneg _), Int.toNat_natCast, if_pos (by omega)]
  exact roomy_loop l hl (l.length + 64) k 0 _ (by omega) (by simp) (by simp) hk
/-! ### back -/
def upI (l : List Int) : List Int := l.map (fun x => wrap64 (x + 1))
theorem back_l1 (d : Nat) : ∀ (k i : Nat) (g : List Int), i + d = g.length → g.length ≤ 17592186043904 → d < k → winnowlaw13_back.l1 k g (i : Int) = some (g.take i ++ upI (g.drop i)) := by
  induction d with
  | zero =>
    intro k i g hi hg hk
    obtain ⟨k, rfl⟩ : ∃ m, k = m + 1 := ⟨k - 1, by omega⟩
    rw [winnowlaw13_back.l1, if_neg (by omega), List.take_of_length_le (by omega), List.drop_of_length_le (by omega)]
    simp [upI]
  | succ d ih =>
    intro k i g hi hg hk
    obtain ⟨k, rfl⟩ : ∃ m, k = m + 1 := ⟨k - 1, by omega⟩
    have hil : i < g.length := by omega
    rw [winnowlaw13_back.l1, if_pos (by omega), if_pos (Int.natCast_nonneg i), wrapP i (by omega), Int.toNat_natCast, rdI_nat g i hil, ih k (i + 1) _ (by rw [List.length_set]; omega) (by rw [List.length_set]; exact hg) (by omega)]
    congr 1
    rw [List.take_succ_eq_append_getElem (by rw [List.length_set]; exact hil), List.take_set_of_le (Nat.le_refl i), List.getElem_set_self, List.drop_set_of_lt (Nat.lt_succ_self i), List.drop_eq_getElem_cons hil, List.append_assoc]
    rfl
theorem back_loop (l : List Int) (hl : l.length ≤ 17592186043904) (d : Nat) : ∀ (k i : Nat) (g : List Int), g.length = l.length → 2 * i ≤ l.length + 1 → l.length ≤ i + d → d + l.length + 2 < k →
    (∀ m, (h : m < l.length) → g[m]? = some (if m < i ∨ l.length ≤ m + i then l[l.length - 1 - m]'(by omega) else l[m])) → winnowlaw13_back.l0 k g (i : Int) ((l.length : Int) - 1 - i) = some (upI l.reverse) := by
  have fin : ∀ (i : Nat) (g : List Int), g.length = l.length → l.length ≤ 2 * i + 1 → (∀ m, (h : m < l.length) → g[m]? = some (if m < i ∨ l.length ≤ m + i then l[l.length - 1 - m]'(by omega) else l[m])) → g = l.reverse := by
    intro i g hg h2 hm
    refine List.ext_getElem? (fun m => ?_)
    by_cases h : m < l.length
    · rw [hm m h, List.getElem?_reverse h]
      by_cases h3 : m < i ∨ l.length ≤ m + i
      · rw [if_pos h3, List.getElem?_eq_getElem (by omega)]
      · rw [if_neg h3]
        have : l.length - 1 - m = m := by omega
        rw [this, List.getElem?_eq_getElem h]
    · rw [List.getElem?_eq_none (by omega), List.getElem?_eq_none (by rw [List.length_reverse]; omega)]
  have out : ∀ (k i : Nat) (g : List Int), l.length + 1 < k → g.length = l.length → l.length ≤ 2 * i + 1 → (∀ m, (h : m < l.length) → g[m]? = some (if m < i ∨ l.length ≤ m + i then l[l.length - 1 - m]'(by omega) else l[m])) → winnowlaw13_back.l1 k g 0 = some (upI l.reverse) := by
    intro k i g hk hg h2 hm
    have e := fin i g hg h2 hm
    have := back_l1 g.length k 0 g (by omega) (by omega) (by omega)
    rw [List.take_zero, List.drop_zero, List.nil_append] at this
    rw [e] at this ⊢
    exact this
  induction d with
  | zero =>
    intro k i g hg h2 hi hk hm
    obtain ⟨k, rfl⟩ : ∃ m, k = m + 1 := ⟨k - 1, by omega⟩
    rw [winnowlaw13_back.l0, if_neg (by omega)]
    exact out k i g (by omega) hg (by omega) hm
  | succ d ih =>
    intro k i g hg h2 hi hk hm
    obtain ⟨k, rfl⟩ : ∃ m, k = m + 1 := ⟨k - 1, by omega⟩
    rw [winnowlaw13_back.l0]
    by_cases h : 2 * i + 1 < l.length
    · have hw := wrapP i (by omega)
      have ej : (l.length : Int) - 1 - i = ((l.length - 1 - i : Nat) : Int) := by omega
      have hw2 : wrap64 (((l.length - 1 - i : Nat) : Int) - 1) = (l.length : Int) - 1 - ((i + 1 : Nat) : Int) := by unfold wrap64; omega
      rw [ej, if_pos (by omega), if_pos (Int.natCast_nonneg i), if_pos (by omega), if_pos (Int.natCast_nonneg _), if_pos (by omega), hw, hw2, Int.toNat_natCast, Int.toNat_natCast, rdI_nat g i (by omega), rdI_nat g (l.length - 1 - i) (by omega)]
      refine ih k (i + 1) _ (by rw [List.length_set, List.length_set]; exact hg) (by omega) (by omega) (by omega) ?_
      have gi : g[i]'(by omega) = l[i] := by
        have := hm i (by omega)
        rw [if_neg (by omega), List.getElem?_eq_getElem (by omega)] at this
        exact Option.some.inj this
      have gj : g[l.length - 1 - i]'(by omega) = l[l.length - 1 - i] := by
        have := hm (l.length - 1 - i) (by omega)
        rw [if_neg (by omega), List.getElem?_eq_getElem (by omega)] at this
        exact Option.some.inj this
      intro m hml
      rw [List.getElem?_set, List.getElem?_set]
      by_cases h1 : l.length - 1 - i = m
      · rw [if_pos h1, if_pos (by rw [List.length_set]; omega), if_pos (by omega)]
        subst h1
        have : l.length - 1 - (l.length - 1 - i) = i := by omega
        simp only [this]
        rw [← gi]
      · rw [if_neg h1]
        by_cases h3 : i = m
        · subst h3
          rw [if_pos rfl, if_pos (by omega), if_pos (by omega), ← gj]
        · rw [if_neg h3, hm m hml]
          by_cases h4 : m < i ∨ l.length ≤ m + i
          · rw [if_pos h4, if_pos (by omega)]
          · rw [if_neg h4, if_neg (by omega)]
    · rw [if_neg (by omega)]
      exact out k i g (by omega) hg (by omega) hm
theorem back_eq (l : List Int) (hl : l.length ≤ 17592186043904) (k : Nat) (hk : 2 * l.length + 2 < k) : winnowlaw13_back.f k l = some (upI l.reverse) := by
  unfold winnowlaw13_back.f
  have hw : wrap64 ((l.length : Int) - 1) = (l.length : Int) - 1 - ((0 : Nat) : Int) := by unfold wrap64; omega
  rw [hw]
  exact back_loop l hl l.length k 0 l rfl (by omega) (by omega) (by omega) (fun m h => by rw [if_neg (by omega), List.getElem?_eq_getElem h])
theorem upI_length (l : List Int) : (upI l).length = l.length := List.length_map ..
/-! ### alike lists -/
theorem sameI_loop (l : List Int) (hl : l.length ≤ 140737488355000) (d : Nat) : ∀ (k i : Nat), i + d = l.length → d < k → winnowlaw13_sameInts.l0 k l l (i : Int) = some true := by
  induction d with
  | zero =>
    intro k i hi hk
    obtain ⟨k, rfl⟩ : ∃ m, k = m + 1 := ⟨k - 1, by omega⟩
    rw [winnowlaw13_sameInts.l0, if_neg (by omega)]
  | succ d ih =>
    intro k i hi hk
    obtain ⟨k, rfl⟩ : ∃ m, k = m + 1 := ⟨k - 1, by omega⟩
    rw [winnowlaw13_sameInts.l0, if_pos (by omega), if_pos (by omega), if_pos (by omega), if_pos rfl, wrapP i (by omega), ih k (i + 1) (by omega) (by omega)]
theorem sameI_eq (l : List Int) (hl : l.length ≤ 140737488355000) (k : Nat) (hk : l.length < k) : winnowlaw13_sameInts.f k l l = some true := by
  unfold winnowlaw13_sameInts.f
  rw [if_pos rfl]
  exact sameI_loop l hl l.length k 0 (by omega) (by omega)
theorem same33_loop (l : List S33) (hl : l.length ≤ 140737488355000) (d : Nat) : ∀ (k i : Nat), i + d = l.length → d < k → winnowlaw13_samePieces.l0 k l l (i : Int) = some true := by
  induction d with
  | zero =>
    intro k i hi hk
    obtain ⟨k, rfl⟩ : ∃ m, k = m + 1 := ⟨k - 1, by omega⟩
    rw [winnowlaw13_samePieces.l0, if_neg (by omega)]
  | succ d ih =>
    intro k i hi hk
    obtain ⟨k, rfl⟩ : ∃ m, k = m + 1 := ⟨k - 1, by omega⟩
    rw [winnowlaw13_samePieces.l0, if_pos (by omega), if_pos (by omega), if_pos (by omega), if_neg (by simp), wrapP i (by omega), ih k (i + 1) (by omega) (by omega)]
theorem same33_eq (l : List S33) (hl : l.length ≤ 140737488355000) (k : Nat) (hk : l.length < k) : winnowlaw13_samePieces.f k l l = some true := by
  unfold winnowlaw13_samePieces.f
  rw [if_pos rfl]
  exact same33_loop l hl l.length k 0 (by omega) (by omega)
theorem same23_loop (l : List S23) (hl : l.length ≤ 140737488355000) (d : Nat) : ∀ (k i : Nat), i + d = l.length → d < k → winnowlaw13_sameSplits.l0 k l l (i : Int) = some true := by
  induction d with
  | zero =>
    intro k i hi hk
    obtain ⟨k, rfl⟩ : ∃ m, k = m + 1 := ⟨k - 1, by omega⟩
    rw [winnowlaw13_sameSplits.l0, if_neg (by omega)]
  | succ d ih =>
    intro k i hi hk
    obtain ⟨k, rfl⟩ : ∃ m, k = m + 1 := ⟨k - 1, by omega⟩
    rw [winnowlaw13_sameSplits.l0, if_pos (by omega), if_pos (by omega), if_pos (by omega), if_neg (by simp), wrapP i (by omega), ih k (i + 1) (by omega) (by omega)]
theorem same23_eq (l : List S23) (hl : l.length ≤ 140737488355000) (k : Nat) (hk : l.length < k) : winnowlaw13_sameSplits.f k l l = some true := by
  unfold winnowlaw13_sameSplits.f
  rw [if_pos rfl]
  exact same23_loop l hl l.length k 0 (by omega) (by omega)
/-! ### the document's Splits -/
theorem rd33_nat (l : List S33) (i : Nat) (h : i < l.length) : rd_T33 l (i : Int) = l[i] := by
  unfold rd_T33
  rw [Int.toNat_natCast, List.getD_eq_getElem?_getD, List.getElem?_eq_getElem h]
  rfl
theorem flS_line (t : ByteArray) (s : Int × Int) (p : Nat × Nat) (hp : p.2 ≤ t.size) : flS t.size s p = (if s.1 < 0 then (lineOf t p).f0 else s.1, (lineOf t p).f2) := by
  unfold flS lineOf
  congr 1
  dsimp only
  by_cases h : p.2 < t.size
  · rw [if_pos h, if_pos (by omega)]; rfl
  · rw [if_neg h, if_neg (by omega)]
/-- one piece -/
theorem RefSplits_l1 (t : ByteArray) (ht : t.size ≤ 4194304) (ps : List S33) (hps : ps.length ≤ 1000) (x : Nat) (hx : x < ps.length) (L : List (Nat × Nat)) (hL : ∀ p ∈ L, p.1 ≤ p.2 ∧ p.2 ≤ t.size) (hll : L.length ≤ 8388608) (o0 : Int) (o1 : ByteArray) (acc : List S23) (d : Nat) :
    ∀ (k i : Nat) (s : Int × Int), i + d = L.length → 2 * d < k → ∃ k2, k ≤ k2 + 2 * d ∧ k2 ≤ k ∧ 
      winnowref13_Splits.l1 k t ps (L.map (lineOf t)) acc (x : Int) s.1 s.2 (i : Int) o0 o1 =
      winnowref13_Splits.l1 k2 t ps (L.map (lineOf t)) acc (x : Int) (((L.drop i).filter (within ps[x].f0 ps[x].f1)).foldl (flS t.size) s).1 (((L.drop i).filter (within ps[x].f0 ps[x].f1)).foldl (flS t.size) s).2 (L.length : Int) o0 o1 := by
  induction d with
  | zero =>
    intro k i s hi hk
    refine ⟨k, by omega, Nat.le_refl _, ?_⟩
    rw [List.drop_of_length_le (by omega)]
    have : i = L.length := by omega
    rw [this]
    rfl
  | succ d ih =>
    intro k i s hi hk
    obtain ⟨k, rfl⟩ : ∃ m, k = m + 1 := ⟨k - 1, by omega⟩
    obtain ⟨k, rfl⟩ : ∃ m, k = m + 1 := ⟨k - 1, by omega⟩
    have hil : i < L.length := by omega
    have hr : rd_T30 (L.map (lineOf t)) (i : Int) = lineOf t L[i] := by rw [rd30_nat _ i (by rw [List.length_map]; exact hil), List.getElem_map]
    have hlm : ((L.map (lineOf t)).length : Int) = (L.length : Int) := by rw [List.length_map]
    have hm := hL L[i] (List.getElem_mem _)
    rw [winnowref13_Splits.l1, hlm, if_pos (by omega), if_pos (Int.natCast_nonneg i), if_pos (Int.natCast_nonneg x), if_pos (by omega), hr, rd33_nat ps x hx, List.drop_eq_getElem_cons hil, List.filter_cons]
    have e0 : (lineOf t L[i]).f0 = (L[i].1 : Int) := rfl
    by_cases h1 : (lineOf t L[i]).f0 ≥ ps[x].f0
    · rw [if_pos h1]
      by_cases h2 : (lineOf t L[i]).f0 < ps[x].f1
      · have hw : within ps[x].f0 ps[x].f1 L[i] = true := by unfold within; rw [decide_eq_true (show ps[x].f0 ≤ (L[i].1 : Int) from h1), decide_eq_true (show (L[i].1 : Int) < ps[x].f1 from h2)]; rfl
        rw [decide_eq_true h2, winnowref13_Splits.j2, if_pos rfl, if_pos hw, List.foldl_cons, hlm, hr, wrapP i (by omega), flS_line t s L[i] hm.2]
        by_cases h3 : s.1 < 0
        · rw [if_pos h3, if_pos (Int.natCast_nonneg i), if_pos (by omega), if_pos h3]
          obtain ⟨k2, q1, q2, q3⟩ := ih k (i + 1) ((lineOf t L[i]).f0, (lineOf t L[i]).f2) (by omega) (by omega)
          exact ⟨k2, by omega, by omega, q3⟩
        · rw [if_neg h3, if_pos (Int.natCast_nonneg i), if_pos (by omega), if_neg h3]
          obtain ⟨k2, q1, q2, q3⟩ := ih k (i + 1) (s.1, (lineOf t L[i]).f2) (by omega) (by omega)
          exact ⟨k2, by omega, by omega, q3⟩
      · have hw : ¬ within ps[x].f0 ps[x].f1 L[i] = true := by unfold within; rw [decide_eq_false (show ¬ (L[i].1 : Int) < ps[x].f1 from h2)]; simp
        rw [decide_eq_false h2, winnowref13_Splits.j2, if_neg (by decide), if_neg hw, wrapP i (by omega)]
        obtain ⟨k2, q1, q2, q3⟩ := ih k (i + 1) s (by omega) (by omega)
        exact ⟨k2, by omega, by omega, q3⟩
    · have hw : ¬ within ps[x].f0 ps[x].f1 L[i] = true := by unfold within; rw [decide_eq_false (show ¬ ps[x].f0 ≤ (L[i].1 : Int) from h1)]; simp
      rw [if_neg h1, winnowref13_Splits.j2, if_neg (by decide), if_neg hw, wrapP i (by omega)]
      obtain ⟨k2, q1, q2, q3⟩ := ih k (i + 1) s (by omega) (by omega)
      exact ⟨k2, by omega, by omega, q3⟩
theorem RefSplits_l0 (t : ByteArray) (ht : t.size ≤ 4194304) (ps : List S33) (hps : ps.length ≤ 1000) (d : Nat) : ∀ (k i : Nat) (acc : List S23), i + d = ps.length → acc.length + d ≤ 2000 → 8388700 * (d + 1) < k → (∀ p ∈ ps.take i, (splitOf t p).f1.size ≤ 65536) → acc = (ps.take i).map (splitOf t) →
    winnowref13_Splits.l0 k t ps ((lns t).map (lineOf t)) acc (i : Int) = some (splitsP t ps) := by
  have hlen : (lns t).length ≤ t.size + 1 := lnsD_length t t.size 0 0
  induction d with
  | zero =>
    intro k i acc hi ha hk hb he
    obtain ⟨k, rfl⟩ : ∃ m, k = m + 1 := ⟨k - 1, by omega⟩
    rw [List.take_of_length_le (by omega)] at hb he
    rw [winnowref13_Splits.l0, if_neg (by omega), he]
    unfold splitsP
    rw [if_pos (List.all_eq_true.2 fun p hp => decide_eq_true (hb p hp))]
  | succ d ih =>
    intro k i acc hi ha hk hb he
    obtain ⟨k, rfl⟩ : ∃ m, k = m + 1 := ⟨k - 1, by omega⟩
    have hil : i < ps.length := by omega
    have hrise := flP_rise t ps[i].f0 ps[i].f1
    have hin := flP_in t ps[i].f0 ps[i].f1 (lns t) (lns_in t)
    have hk2 : 8388700 * (d + 1) + 8388700 ≤ k := by omega
    rw [winnowref13_Splits.l0, if_pos (by omega), if_pos (Int.natCast_nonneg i), rd33_nat ps i hil]
    obtain ⟨k2, q1, q2, q3⟩ := RefSplits_l1 t ht ps hps i hil (lns t) (lns_in t) (by omega) ps[i].f0 ⟨#[]⟩ acc (lns t).length k 0 (-1, 0) (by omega) (by omega)
    rw [List.drop_zero] at q3
    have q4 : winnowref13_Splits.l1 k t ps ((lns t).map (lineOf t)) acc (i : Int) (-1) 0 0 ps[i].f0 ⟨#[]⟩ = winnowref13_Splits.l1 k2 t ps ((lns t).map (lineOf t)) acc (i : Int) (flP t ps[i].f0 ps[i].f1 (lns t)).1 (flP t ps[i].f0 ps[i].f1 (lns t)).2 ((lns t).length : Int) ps[i].f0 ⟨#[]⟩ := q3
    rw [q4]
    obtain ⟨k2, rfl⟩ : ∃ m, k2 = m + 1 := ⟨k2 - 1, by omega⟩
    have hspl : splitOf t ps[i] = if 0 ≤ (flP t ps[i].f0 ps[i].f1 (lns t)).1 then ⟨(flP t ps[i].f0 ps[i].f1 (lns t)).1, t.extract (flP t ps[i].f0 ps[i].f1 (lns t)).1.toNat (flP t ps[i].f0 ps[i].f1 (lns t)).2.toNat⟩ else ⟨ps[i].f0, ⟨#[]⟩⟩ := rfl
    have hpm : ps[i] ∈ ps := List.getElem_mem _
    have htk : ps.take (i + 1) = ps.take i ++ [ps[i]] := List.take_succ_eq_append_getElem hil
    have long : 65536 < (splitOf t ps[i]).f1.size → splitsP t ps = ([], 2) := by
      intro h
      unfold splitsP
      rw [if_neg]
      intro ha'
      have := of_decide_eq_true (List.all_eq_true.1 ha' _ hpm)
      omega
    have more : (splitOf t ps[i]).f1.size ≤ 65536 → ∀ a2, a2 = acc ++ [splitOf t ps[i]] → winnowref13_Splits.l0 k2 t ps ((lns t).map (lineOf t)) a2 ((i + 1 : Nat) : Int) = some (splitsP t ps) := by
      rintro h a2 rfl
      refine ih k2 (i + 1) _ (by omega) (by rw [List.length_append, List.length_singleton]; omega) (by omega) (fun p hp => ?_) (by rw [htk, List.map_append, he]; rfl)
      rw [htk] at hp
      rcases List.mem_append.1 hp with hp | hp
      · exact hb p hp
      · rw [List.mem_singleton.1 hp]; exact h
    have hlm : (((lns t).map (lineOf t)).length : Int) = ((lns t).length : Int) := by rw [List.length_map]
    rw [winnowref13_Splits.l1, hlm, if_neg (by omega), wrapP i (by omega)]
    generalize flP t ps[i].f0 ps[i].f1 (lns t) = q at *
    obtain ⟨qa, qb⟩ := q
    dsimp only at *
    by_cases h0 : 0 ≤ qa
    · rw [if_pos (show qa ≥ 0 from h0), if_pos h0, if_pos (by omega), if_pos (by omega)]
      rw [if_pos h0] at hspl
      by_cases h1 : ((t.extract qa.toNat qb.toNat).size : Int) > 65536
      · rw [if_pos h1, long (by rw [hspl]; show 65536 < (t.extract qa.toNat qb.toNat).size; omega)]
      · rw [if_neg h1, if_pos (by omega)]
        exact more (by rw [hspl]; show (t.extract qa.toNat qb.toNat).size ≤ 65536; omega) _ (by rw [hspl])
    · rw [if_neg (show ¬ qa ≥ 0 from h0)]
      rw [if_neg h0] at hspl
      rw [if_neg (by decide), if_pos (by omega)]
      exact more (by rw [hspl]; show 0 ≤ 65536; omega) _ (by rw [hspl])
theorem RefSplits_eq (t : ByteArray) (l : List Int) (k : Nat) (hk : 8388700 * 2000 < k) : winnowref13_Splits.f k t l = some (splitsL t l) := by
  unfold winnowref13_Splits.f splitsL
  rw [RefCut_eq _ _ k (by omega), Option.bind_some]
  by_cases he : (cutL (t.size : Int) l).2 = 0
  · obtain ⟨h0, h1, h2, h3, h4⟩ := cutL_ok _ _ he
    rw [if_pos he, if_pos he, RefAll_eq t (by omega) k (by omega), Option.bind_some]
    exact RefSplits_l0 t (by omega) _ (by omega) _ k 0 [] (by rw [Nat.zero_add]) (by rw [List.length_nil]; omega) (by omega) (fun p hp => absurd hp (by simp)) rfl
  · rw [if_neg he, if_neg he]
end Go.Proofs.Ytbcggfjfgoabpaa.P

end
section
/- The walk of LinesCuts, out of its callees' contracts (printed by HCuts.gen.py). -/
namespace Go.Proofs.Ytbcggfjfgoabpaa.P
open Go.RowKit Go.Proofs.YtbcggfjfgoabpaaW.PrintWords Go.Proofs.YtbcggfjfgoabpaaW.PrintLast Go.Proofs.YtbcggfjfgoabpaaW.PrintMore
set_option linter.unusedVariables false
set_option linter.unusedSimpArgs false

theorem cutL_length (n : Int) (l : List Int) : ((cutL n l).1).length ≤ 1000 := by
  by_cases he : (cutL n l).2 = 0
  · obtain ⟨h0, h1, h2, h3, h4⟩ := cutL_ok _ _ he
    omega
  · unfold cutL at he ⊢
    split
    · simp
    · split
      · simp
      · rename_i h1 h2
        rw [if_neg h1, if_neg h2] at he
        exact absurd rfl he
theorem own_inC33 {α : Type} {d : Kd α} {e : Nat} {W : World} {B base : Nat} {v : Value} {xs : List α} (h : d.R e W B (fun _ => True) v xs) (hb : base ≤ B) : d.R e W base (fun k => B ≤ k ∧ k < W.heap.size) v xs :=
  Kd.R_lower (Kd.R_mono (Kd.R_bound h) (fun k h => ⟨h.2.1, h.2.2.1⟩)) hb
/-- One element of an own row written. -/
theorem putC33 {W : World} {base : Nat} {P : Nat → Prop} {v : Value} {l : List S33} (h : Kd.R k33 33 W base P v l) (i : Nat) (hi : i < l.length) (x : S33) :
    ∃ g c, v = .slice (some ⟨g, 0, none⟩) l.length c ∧ P g ∧ base ≤ g ∧
      (∃ (a0 : Int) (a1 : Int), W.cell? ⟨g, i * 2, none⟩ = some (.int .i64 a0) ∧ W.cell? ⟨g, i * 2 + 1, none⟩ = some (.int .i64 a1)) ∧
      (W.frozen? ⟨g, i * 2, none⟩ = false ∧ W.frozen? ⟨g, i * 2 + 1, none⟩ = false) ∧
      Kd.R k33 33 ((W.setCell ⟨g, i * 2, none⟩ (.int .i64 x.f0)).setCell ⟨g, i * 2 + 1, none⟩ (.int .i64 x.f1)) base P v (l.set i x) ∧
      W.grownBy ((W.setCell ⟨g, i * 2, none⟩ (.int .i64 x.f0)).setCell ⟨g, i * 2 + 1, none⟩ (.int .i64 x.f1)) (some g) := by
  obtain ⟨g, c, rfl, gb, gl, _⟩ := Kd.R_form h (by omega)
  obtain ⟨ce, hcl, hM, hcc, hfr⟩ := Kd.R_elem h z33 (i : Int) (by omega) (by omega)
  obtain rfl := k33_openM hM
  have hP := Kd.R_seg h (i : Int) (by omega) (by omega) (seg := [.int .i64 x.f0, .int .i64 x.f1]) (j := 0) hcl hcc (show 2 ≤ 2 from by decide) (x' := x) (k33_mkM _ _ _ x) (fun _ hk => hk)
  rw [Int.toNat_natCast] at hcc hfr hP
  exact ⟨g, c, rfl, h.1 _ rfl, gb, ⟨_, _, hcc 0 _ rfl, hcc 1 _ rfl⟩, ⟨hfr 0, hfr 1⟩, hP.1, hP.2⟩
/-- where the law stands, while the first answer is spoilt -/
def C33 (w wr : World) (s1 s2 s3 : Nat) (vF : Value) (L : List Int) (vb : Value) (lb : List S33) (va : Value) (n : Nat) : Prop :=
  Kd.R (Kd.int .i64) 3 wr w.heap.size (fun k => w.heap.size ≤ k ∧ k < s1) vF L ∧ Kd.R k33 33 wr w.heap.size (fun k => s2 ≤ k ∧ k < s3) vb lb ∧ (∃ la, la.length = n ∧ Kd.R k33 33 wr w.heap.size (fun k => (s1 ≤ k ∧ k < s2) ∨ s3 ≤ k) va la) ∧
    Below w.heap.size w wr ∧ s3 ≤ wr.heap.size ∧ w.heap.size ≤ s1 ∧ s1 ≤ s2 ∧ s2 ≤ s3
theorem C33.put {w wr : World} {s1 s2 s3 : Nat} {vF : Value} {L : List Int} {vb : Value} {lb : List S33} {va : Value} {n : Nat} (h : C33 w wr s1 s2 s3 vF L vb lb va n) (i : Nat) (hi : i < n) (x : S33) :
    ∃ g c, va = .slice (some ⟨g, 0, none⟩) n c ∧
      (∃ (a0 : Int) (a1 : Int), wr.cell? ⟨g, i * 2, none⟩ = some (.int .i64 a0) ∧ wr.cell? ⟨g, i * 2 + 1, none⟩ = some (.int .i64 a1)) ∧
      (wr.frozen? ⟨g, i * 2, none⟩ = false ∧ wr.frozen? ⟨g, i * 2 + 1, none⟩ = false) ∧
      C33 w ((wr.setCell ⟨g, i * 2, none⟩ (.int .i64 x.f0)).setCell ⟨g, i * 2 + 1, none⟩ (.int .i64 x.f1)) s1 s2 s3 vF L vb lb va n := by
  obtain ⟨h1, h2, ⟨la, rfl, h3⟩, h4, h5, h6, h7, h8⟩ := h
  obtain ⟨g, c, e, hPg, hbg, hx, hf, hR2, hg⟩ := putC33 h3 i hi x
  refine ⟨g, c, e, hx, hf, Kd.R_grown h1 hg (fun k hk e => ?_), Kd.R_grown h2 hg (fun k hk e => ?_), ⟨la.set i x, by simp, hR2⟩, (h4.setCell hbg _).setCell hbg _, Nat.le_trans h5 hg.size, h6, h7, h8⟩
  · injection e with e; subst e; omega
  · injection e with e; subst e; omega
theorem C33.app {w wr w1 : World} {s1 s2 s3 : Nat} {vF : Value} {L : List Int} {vb : Value} {lb : List S33} {va v1 : Value} {n : Nat} {la : List S33} {x : S33} (h : C33 w wr s1 s2 s3 vF L vb lb va n) (hla : la.length = n) (h3 : Kd.R k33 33 wr w.heap.size (fun k => (s1 ≤ k ∧ k < s2) ∨ s3 ≤ k) va la)
    (ho : Kd.R k33 33 w1 w.heap.size (fun k => (s1 ≤ k ∧ k < s2) ∨ s3 ≤ k) v1 (la ++ [x])) (hb : Below w.heap.size w w1) (hg : wr.grownBy w1 va.ownBlock) : C33 w w1 s1 s2 s3 vF L vb lb v1 (n + 1) := by
  obtain ⟨h1, h2, _, h4, h5, h6, h7, h8⟩ := h
  refine ⟨Kd.R_grown h1 hg (fun k hk e => ?_), Kd.R_grown h2 hg (fun k hk e => ?_), ⟨la ++ [x], by simp [hla], ho⟩, hb, Nat.le_trans h5 hg.size, h6, h7, h8⟩
  · have := h3.1 k e.symm; omega
  · have := h3.1 k e.symm; omega

set_option maxHeartbeats 4000000 in
set_option maxRecDepth 100000 in
theorem LinesCuts_walk (n : Int) (A0 : Option Addr) (c0 : Nat) (l : List Int) (w : World) (hr0 : Kd.C (Kd.int .i64) w A0 l.length l) (hc0 : l.length ≤ c0) (hl : l.length ≤ 17592186043904) :
    Calls Try.prog 5 #[.int .i64 n, .slice A0 l.length c0] w fun e w' => e = .returned (.bool true) ∧ Below w.heap.size w w' := by
  obtain ⟨k, hk⟩ : ∃ k, 8388700 * 2000 + 4 * l.length + 1000 < k := ⟨_, Nat.lt_succ_self _⟩
  have HR := Aside0.mk hr0
  have HC := Aside0.mk hc0
  have hroom := Aside0.mk (roomy_eq l hl k (by omega))
  obtain ⟨L, hL⟩ : ∃ L, L = roomI l := ⟨_, rfl⟩
  have hLl : L.length = l.length + 64 := by rw [hL, roomI_length]
  have hsm := Aside0.mk (sameI_eq L (by omega) k (by omega))
  have hLt := Aside0.mk (show L.take l.length = l by rw [hL]; exact List.take_left)
  rw [← hL] at hroom
  obtain ⟨I, hI⟩ : ∃ I, I = upI l.reverse := ⟨_, rfl⟩
  have il : I.length = l.length := by rw [hI, upI_length, List.length_reverse]
  have hback := Aside0.mk (back_eq l hl k (by omega))
  rw [← hI] at hback
  obtain ⟨⟨T, er⟩, hT⟩ : ∃ T, T = cutL n l := ⟨_, rfl⟩
  have hTl : T.length ≤ 1000 := by have := cutL_length n l; rw [← hT] at this; exact this
  obtain ⟨n1, hn1⟩ : ∃ n1, n1 = T.length := ⟨_, rfl⟩
  have hp := (Cut_eq n l (by first | omega | (rw [il]; omega)) k (by omega))
  rw [← hT] at hp
  have hrp := RefCut_eq n l k (by omega)
  rw [← hT] at hrp
  have HP := Aside0.mk hp
  have HRP := Aside0.mk hrp
  have hsmT := Aside0.mk (same33_eq T (by omega) k (by omega))
  obtain ⟨⟨T2, er2⟩, hT2⟩ : ∃ T, T = cutL n I := ⟨_, rfl⟩
  have hT2l : T2.length ≤ 1000 := by have := cutL_length n I; rw [← hT2] at this; exact this
  have hp2 := (Cut_eq n I (by first | omega | (rw [il]; omega)) k (by omega))
  rw [← hT2] at hp2
  have hrp2 := RefCut_eq n I k (by omega)
  rw [← hT2] at hrp2
  have HP2 := Aside0.mk hp2
  have HRP2 := Aside0.mk hrp2
  have hsmT2 := Aside0.mk (same33_eq T2 (by omega) k (by omega))
  have HLl := Aside0.mk hLl
  have HN1 := Aside0.mk hn1
  have HIl := Aside0.mk il
  have hnb : (n1 : Int) ≤ 1000 := by omega
  have HTL := Aside0.mk hTl
  have hLle : l.length ≤ L.length := by omega
  have hlmax : (l.length : Int) ≤ 17592186043904 := by omega
  have hwN : IntKind.i64.wrap ((n1 : Int) + 64) = ((n1 + 64 : Nat) : Int) := by rw [IntKind.wrap_i64]; omega
  obtain ⟨i0, hi0, _, _, _⟩ := info_parts info3
  clear hr0 hc0 hk hL hLl hT hI hT2 hTl il hT2l hl hp hrp hp2 hrp2 hn1
  go_enter Try.func5, Try.ntmps5
  go_wp2_with fail
  -- full
  refine (winnowlaw13_roomy.calls k A0 c0 l L w HR.out HC.out hroom.out).mono ?_
  rintro e w1 ⟨v1, rfl, hF, hB⟩
  obtain ⟨A1, c1, rfl, hc1, hC1⟩ := Kd.R_reads hF
  have hcut1 := cut_to (P := Try.prog) 42 3 .i64 Try.underlying42 hi0 A1 L.length c1 (l.length : Int) (by omega) (by have := HLl.out; omega) hc1
  rw [Int.toNat_natCast] at hcut1
  have hs1 := Aside0.mk hB.size
  have HF := Aside0.mk (own_inC33 hF (Nat.le_refl _))
  have HB := Aside0.mk hB
  have HC1 := Aside0.mk hc1
  have hinc := Aside0.mk (show l.length ≤ c1 by have := HLl.out; omega)
  have hinC : ∀ W (S : Nat → Prop), Kd.R (Kd.int .i64) 3 W w.heap.size S (.slice A1 L.length c1) L → Kd.C (Kd.int .i64) W A1 l.length l := by
    intro W S h
    have := Kd.R_take h hLle
    rw [hLt.out] at this
    exact (Kd.R_reads' this).2.2
  have HinC := Aside0.mk hinC
  clear hF hB hc1 hC1 hinC
  go_wp2_with fail
  -- a
  refine (lines_Cut.calls k n A1 c1 l T er _ (HinC.out _ _ HF.out) hinc.out HP.out).mono ?_
  rintro e w2 ⟨vt, rfl, hT, hB2⟩
  have HB2 := Aside0.mk (below_step HB.out hB2)
  have HF2 := Aside0.mk (Kd.R_below HF.out hB2)
  have HT := Aside0.mk (own_inC33 hT (below_size HB.out))
  have hs2 := Aside0.mk hB2.size
  clear hT hB2
  go_wp2_with fail
  -- b
  refine (lines_Cut.calls k n A1 c1 l T er _ (HinC.out _ _ HF2.out) hinc.out HP.out).mono ?_
  rintro e w3 ⟨vu, rfl, hU, hB3⟩
  have hs3 := Aside0.mk hB3.size
  have HCS : Aside0 (C33 w w3 w1.heap.size w2.heap.size w3.heap.size (.slice A1 L.length c1) L vu T vt n1) :=
    ⟨Kd.R_below HF2.out hB3, own_inC33 hU (below_size HB2.out), ⟨T, HN1.out.symm, Kd.R_mono (Kd.R_below HT.out hB3) (fun k h => .inl h)⟩, below_step HB2.out hB3, Nat.le_refl _, hs1.out, hs2.out, hs3.out⟩
  obtain ⟨At, ct, rfl⟩ := Kd.R_slice HT.out
  rw [← HN1.out] at HCS
  clear hU hB3 HT HF2 HF HB HB2
  rw [← HN1.out]
  go_wp2_with fail
  go_loopw [10] (fun v wr => ∃ i : Nat, i ≤ n1 ∧ v = .int .i64 i ∧ Aside0 (C33 w wr w1.heap.size w2.heap.size w3.heap.size (.slice A1 L.length c1) L vu T (.slice At n1 ct) n1)) (fun v _ => n1 - (intOf v).toNat)
  case atStart => exact ⟨0, by omega, rfl, HCS⟩
  case round =>
    clear HCS
    obtain ⟨i, hi, rfl, hS⟩ := hrel
    by_cases hlt : i < n1
    · have hd1 : decide ((i : Int) < (n1 : Int)) = true := by simp; omega
      have hd2 : decide (i < n1) = true := by simp; omega
      obtain ⟨g, c, e, ⟨a0, a1, hx30, hx31⟩, ⟨hf0, hf1⟩, hS2⟩ := hS.out.put i hlt ⟨-5, 0⟩
      injection e with e1 e2 e3
      subst e1 e3
      have HS2 := Aside0.mk hS2
      clear hS2 hS
      go_wp2_with fail
      go_roundw
      case rel => exact ⟨i + 1, by omega, by go_num, HS2⟩
      case measure => simp [intOf]; omega
    · obtain rfl : i = n1 := by omega
      go_wp2_with fail
      go_loopw [6, 11] (fun va v wr => ∃ m : Nat, m ≤ 64 ∧ v = .int .i64 m ∧ Aside0 (C33 w wr w1.heap.size w2.heap.size w3.heap.size (.slice A1 L.length c1) L vu T va (i + m))) (fun _ v _ => 64 - (intOf v).toNat)
      case atStart => exact ⟨0, by omega, rfl, hS⟩
      case round =>
        clear hS
        obtain ⟨m, hm, rfl, hQ⟩ := hrel
        by_cases hlt3 : m < 64
        · have hd1 : decide ((m : Int) < 64) = true := by simp; omega
          have hQ2 := hQ.out
          obtain ⟨q1, q2, ⟨la, q3, q4⟩, q5, q6, q7, q8, q9⟩ := hQ2
          have Q3 := Aside0.mk q3
          have Q4 := Aside0.mk q4
          have Q5 := Aside0.mk q5
          have Q6 := Aside0.mk (Nat.le_trans q7 (Nat.le_trans q8 (Nat.le_trans q9 q6)))
          have Q7 := Aside0.mk (show ∀ k, wr.heap.size ≤ k → ((w1.heap.size ≤ k ∧ k < w2.heap.size) ∨ w3.heap.size ≤ k) from fun k hk => .inr (by omega))
          have Q8 := Aside0.mk (show (la.length + 1) * 16 ≤ 140737488355328 by omega)
          have GA := Aside0.mk (fun (v1 : Value) (w1' : World) => C33.app (w1 := w1') (v1 := v1) (x := ⟨-6, 0⟩) hQ.out q3 q4)
          clear q1 q2 q3 q4 q5 q6 q7 q8 q9 hQ
          go_wp2_with (first | ((with_reducible refine gate_builtin (b := .append) (xs := #[.tmp 52, .tmp 54]) rfl ?_); at_builtin; refine Kd.R_append k33 (w0 := w) w.heap.size rfl (.tmp 52) (.tmp 54) 44 33 (.agg #[.int .i64 0, .int .i64 0]) 16 rfl Try.underlying44 info33 rfl (by decide) (by omega) u6 la ⟨-6, 0⟩ [.int .i64 (-6), .int .i64 0] (fun k => (w1.heap.size ≤ k ∧ k < w2.heap.size) ∨ w3.heap.size ≤ k) (fun _ => False) rfl rfl (k33_mkM _ _ _ _) (fun _ hk => hk.elim) Q7.out Q4.out Q5.out Q6.out Q8.out ?_; intro v1 w1' ho hb hg hat; have HQ2 := Aside0.mk (GA.out v1 w1' ho hb hg); clear ho hb hg hat GA Q3 Q4 Q5 Q6 Q7 Q8))
          go_roundw
          case rel => exact ⟨m + 1, by omega, by go_num, HQ2⟩
          case measure => simp [intOf]; omega
        · obtain rfl : m = 64 := by omega
          obtain ⟨q1, q2, ⟨la, q3, q4⟩, q5, q6, q7, q8, q9⟩ := hQ.out
          obtain ⟨Ax, cx, rfl⟩ := Kd.R_slice q4
          rw [q3]
          have HF4 := Aside0.mk q1
          have HU4 := Aside0.mk q2
          have HB4 := Aside0.mk q5
          have hs4 := Aside0.mk q6
          clear q1 q2 q3 q4 q5 q6 q7 q8 q9 hQ
          go_wp2_with fail
          -- ref
          refine (winnowref13_Cut.calls k n A0 c0 l T er _ (Kd.C_below HR.out HB4.out) HC.out HRP.out).mono ?_
          rintro e w5 ⟨vw, rfl, hW, hB5⟩
          have HF5 := Aside0.mk (Kd.R_below HF4.out hB5)
          have HU5 := Aside0.mk (Kd.R_below HU4.out hB5)
          have hs5 := Aside0.mk hB5.size
          have HB5 := Aside0.mk (below_step HB4.out hB5)
          have HW5 := Aside0.mk (own_inC33 hW (below_size HB4.out))
          obtain ⟨Aw, cw, rfl, hcw, hCw⟩ := Kd.R_reads hW
          obtain ⟨Au, cu, rfl, hcu, hCu⟩ := Kd.R_reads HU5.out
          have Hcu := Aside0.mk hcu
          have Hcw := Aside0.mk hcw
          clear hW hB5
          go_wp2_with fail
          refine (winnowlaw13_samePieces.calls k Au cu T Aw cw T _ _ hCu hcu hCw hcw hsmT.out).mono ?_
          rintro e w6 ⟨rfl, hD⟩
          have HF6 := Aside0.mk (Kd.R_below HF5.out hD.below)
          have HU6 := Aside0.mk (Kd.R_below HU5.out hD.below)
          have HW6 := Aside0.mk (Kd.R_below HW5.out hD.below)
          have HB6 := Aside0.mk (below_step HB5.out hD.below)
          have hs6 := Aside0.mk hD.below.size
          clear hD hCu hcu hCw hcw
          rw [← HN1.out]
          go_wp2_with fail
          refine (winnowlaw13_roomy.calls k A0 c0 l L _ (Kd.C_below HR.out HB6.out) HC.out hroom.out).mono ?_
          rintro e w7 ⟨vr, rfl, hR, hB7⟩
          have HF7 := Aside0.mk (Kd.R_below HF6.out hB7)
          have HU7 := Aside0.mk (Kd.R_below HU6.out hB7)
          have HW7 := Aside0.mk (Kd.R_below HW6.out hB7)
          have HB7 := Aside0.mk (below_step HB6.out hB7)
          have hs7 := Aside0.mk hB7.size
          obtain ⟨Ar, cr, rfl, hcr, hCr⟩ := Kd.R_reads hR
          clear hB7 hR
          go_wp2_with fail
          refine (winnowlaw13_sameInts.calls k A1 c1 L Ar cr L _ _ (Kd.R_reads' HF7.out).2.2 HC1.out hCr hcr hsm.out).mono ?_
          rintro e w8 ⟨rfl, hD⟩
          have HF8 := Aside0.mk (Kd.R_below HF7.out hD.below)
          have HU8 := Aside0.mk (Kd.R_below HU7.out hD.below)
          have HW8 := Aside0.mk (Kd.R_below HW7.out hD.below)
          have HB8 := Aside0.mk (below_step HB7.out hD.below)
          have hs8 := Aside0.mk hD.below.size
          clear hD hCr hcr
          have HIN8 := Aside0.mk (Kd.R_take HF8.out hLle)
          rw [hLt.out] at HIN8
          go_wp2_with fail
          -- back(full)
          refine (winnowlaw13_back.calls_in k _ _ l I w _ HB8.out HIN8.out hback.out).mono ?_
          rintro e w9 ⟨rfl, hF9, hB9, hK9⟩
          have HB9 := Aside0.mk hB9
          have hs9 := Aside0.mk hK9.1
          have hIC := Aside0.mk (Kd.R_reads' hF9).2.2
          have HU9 := Aside0.mk (Kd.R_kept HU8.out hK9 (fun k h => by have := hs2.out; have := hs3.out; omega))
          have HW9 := Aside0.mk (Kd.R_kept HW8.out hK9 (fun k h => by have := hs2.out; have := hs3.out; have := hs4.out; omega))
          have hic1 := Aside0.mk (show I.length ≤ c1 by have := hinc.out; have := HIl.out; omega)
          clear hF9 hB9 hK9
          go_wp2_with fail
          -- c
          have q := lines_Cut.calls k n A1 c1 I T2 er2 _ hIC.out hic1.out HP2.out
          rw [HIl.out] at q
          refine q.mono ?_
          clear q
          rintro e w10 ⟨vc, rfl, hc, hB10⟩
          have HU10 := Aside0.mk (Kd.R_below HU9.out hB10)
          have HW10 := Aside0.mk (Kd.R_below HW9.out hB10)
          have HCc := Aside0.mk (own_inC33 hc (below_size HB9.out))
          have HB10 := Aside0.mk (below_step HB9.out hB10)
          have hs10 := Aside0.mk hB10.size
          clear hc hB10
          go_wp2_with fail
          -- roomy again
          refine (winnowlaw13_roomy.calls k A0 c0 l L _ (Kd.C_below HR.out HB10.out) HC.out hroom.out).mono ?_
          rintro e w11 ⟨v11, rfl, hF11, hB11⟩
          have HU11 := Aside0.mk (Kd.R_below HU10.out hB11)
          have HW11 := Aside0.mk (Kd.R_below HW10.out hB11)
          have HCc11 := Aside0.mk (Kd.R_below HCc.out hB11)
          have HB11 := Aside0.mk (below_step HB10.out hB11)
          have hs11 := Aside0.mk hB11.size
          obtain ⟨A8, c8, rfl, hc8, hC8⟩ := Kd.R_reads hF11
          have HO11 := Aside0.mk (own_inC33 (Kd.R_take hF11 hLle) (below_size HB10.out))
          rw [hLt.out] at HO11
          have hcut8 := cut_to (P := Try.prog) 42 3 .i64 Try.underlying42 hi0 A8 L.length c8 (l.length : Int) (by omega) (by have := HLl.out; omega) hc8
          rw [Int.toNat_natCast] at hcut8
          have Hc8 := Aside0.mk (show l.length ≤ c8 by have := HLl.out; omega)
          clear hF11 hB11 hC8 hc8
          go_wp2_with fail
          refine (winnowlaw13_back.calls_in k _ _ l I w _ HB11.out HO11.out hback.out).mono ?_
          rintro e w12 ⟨rfl, hF12, hB12, hK12⟩
          have HB12 := Aside0.mk hB12
          have HU12 := Aside0.mk (Kd.R_kept HU11.out hK12 (fun k h => by have := hs3.out; have := hs4.out; have := hs5.out; have := hs6.out; have := hs7.out; have := hs8.out; have := hs9.out; have := hs10.out; omega))
          have HW12 := Aside0.mk (Kd.R_kept HW11.out hK12 (fun k h => by have := hs5.out; have := hs6.out; have := hs7.out; have := hs8.out; have := hs9.out; have := hs10.out; omega))
          have HCc12 := Aside0.mk (Kd.R_kept HCc11.out hK12 (fun k h => by have := hs10.out; omega))
          have hOC := Aside0.mk (Kd.R_reads' hF12).2.2
          have hic8 := Aside0.mk (show I.length ≤ c8 by have := Hc8.out; have := HIl.out; omega)
          clear hF12 hB12 hK12
          go_wp2_with fail
          have q := winnowref13_Cut.calls k n A8 c8 I T2 er2 _ hOC.out hic8.out HRP2.out
          rw [HIl.out] at q
          refine q.mono ?_
          clear q
          rintro e w13 ⟨vz, rfl, hZ, hB13⟩
          have HB13 := Aside0.mk (below_step HB12.out hB13)
          have HU13 := Aside0.mk (Kd.R_below HU12.out hB13)
          have HW13 := Aside0.mk (Kd.R_below HW12.out hB13)
          obtain ⟨Ac, cc, rfl, hcc, hCC⟩ := Kd.R_reads (Kd.R_below HCc12.out hB13)
          obtain ⟨Az, cz, rfl, hcz, hCz⟩ := Kd.R_reads hZ
          clear hB13 hZ
          go_wp2_with fail
          refine (winnowlaw13_samePieces.calls k Ac cc T2 Az cz T2 _ _ hCC hcc hCz hcz hsmT2.out).mono ?_
          rintro e w14 ⟨rfl, hD⟩
          have hCu := (Kd.R_reads' (Kd.R_below HU13.out hD.below)).2.2
          have hCw := (Kd.R_reads' (Kd.R_below HW13.out hD.below)).2.2
          have HB14 := Aside0.mk (below_step HB13.out hD.below)
          clear hD hCC hcc hCz hcz
          rw [HN1.out]
          go_wp2_with fail
          refine (winnowlaw13_samePieces.calls k Au cu T Aw cw T _ _ hCu Hcu.out hCw Hcw.out hsmT.out).mono ?_
          rintro e w16 ⟨rfl, hD⟩
          have HB16 := Aside0.mk (below_step HB14.out hD.below)
          clear hD hCu hCw
          go_wp2_with fail
          go_ret
          exact ⟨by first | rfl | (simp; done), HB16.out⟩

/-- The law as a function with a contract: true of whatever is not too long. -/
def winnowlaw13_LinesCuts.f (n : Int) (l : List Int) : Option Bool := if l.length ≤ 17592186043904 then some true else none
theorem winnowlaw13_LinesCuts.calls (n : Int) (A0 : Option Addr) (c0 : Nat) (l : List Int) (r : Bool) (w : World) (hr0 : Kd.C (Kd.int .i64) w A0 l.length l) (hc0 : l.length ≤ c0) (h : winnowlaw13_LinesCuts.f n l = some r) :
    Calls Try.prog 5 #[.int .i64 n, .slice A0 l.length c0] w fun e w' => e = .returned (.bool r) ∧ Below w.heap.size w w' := by
  unfold winnowlaw13_LinesCuts.f at h
  by_cases hl : l.length ≤ 17592186043904
  · rw [if_pos hl] at h
    injection h with h
    subst h
    exact LinesCuts_walk n A0 c0 l w hr0 hc0 hl
  · rw [if_neg hl] at h
    cases h
end Go.Proofs.Ytbcggfjfgoabpaa.P

end
section
/- The walk of LinesSplits, out of its callees' contracts (printed by HCuts.gen.py). -/
namespace Go.Proofs.Ytbcggfjfgoabpaa.P
open Go.RowKit Go.Proofs.YtbcggfjfgoabpaaW.PrintWords Go.Proofs.YtbcggfjfgoabpaaW.PrintLast Go.Proofs.YtbcggfjfgoabpaaW.PrintMore
set_option linter.unusedVariables false
set_option linter.unusedSimpArgs false

theorem splitsL_length (t : ByteArray) (l : List Int) : ((splitsL t l).1).length ≤ 1000 := by
  unfold splitsL
  split
  · rename_i he
    obtain ⟨h0, h1, h2, h3, h4⟩ := cutL_ok _ _ he
    unfold splitsP
    split
    · rw [List.length_map]; omega
    · simp
  · simp
theorem own_inC23 {α : Type} {d : Kd α} {e : Nat} {W : World} {B base : Nat} {v : Value} {xs : List α} (h : d.R e W B (fun _ => True) v xs) (hb : base ≤ B) : d.R e W base (fun k => B ≤ k ∧ k < W.heap.size) v xs :=
  Kd.R_lower (Kd.R_mono (Kd.R_bound h) (fun k h => ⟨h.2.1, h.2.2.1⟩)) hb
/-- One element of an own row written. -/
theorem putC23 {W : World} {base : Nat} {P : Nat → Prop} {v : Value} {l : List S23} (h : Kd.R k23 23 W base P v l) (i : Nat) (hi : i < l.length) (x : S23) :
    ∃ g c, v = .slice (some ⟨g, 0, none⟩) l.length c ∧ P g ∧ base ≤ g ∧
      (∃ (a0 : Int) (a1 : ByteArray), W.cell? ⟨g, i * 2, none⟩ = some (.int .i64 a0) ∧ W.cell? ⟨g, i * 2 + 1, none⟩ = some (.string a1)) ∧
      (W.frozen? ⟨g, i * 2, none⟩ = false ∧ W.frozen? ⟨g, i * 2 + 1, none⟩ = false) ∧
      Kd.R k23 23 ((W.setCell ⟨g, i * 2, none⟩ (.int .i64 x.f0)).setCell ⟨g, i * 2 + 1, none⟩ (.string x.f1)) base P v (l.set i x) ∧
      W.grownBy ((W.setCell ⟨g, i * 2, none⟩ (.int .i64 x.f0)).setCell ⟨g, i * 2 + 1, none⟩ (.string x.f1)) (some g) := by
  obtain ⟨g, c, rfl, gb, gl, _⟩ := Kd.R_form h (by omega)
  obtain ⟨ce, hcl, hM, hcc, hfr⟩ := Kd.R_elem h z23 (i : Int) (by omega) (by omega)
  obtain rfl := k23_openM hM
  have hP := Kd.R_seg h (i : Int) (by omega) (by omega) (seg := [.int .i64 x.f0, .string x.f1]) (j := 0) hcl hcc (show 2 ≤ 2 from by decide) (x' := x) (k23_mkM _ _ _ x) (fun _ hk => hk)
  rw [Int.toNat_natCast] at hcc hfr hP
  exact ⟨g, c, rfl, h.1 _ rfl, gb, ⟨_, _, hcc 0 _ rfl, hcc 1 _ rfl⟩, ⟨hfr 0, hfr 1⟩, hP.1, hP.2⟩
/-- where the law stands, while the first answer is spoilt -/
def C23 (w wr : World) (s1 s2 s3 : Nat) (vF : Value) (L : List Int) (vb : Value) (lb : List S23) (va : Value) (n : Nat) : Prop :=
  Kd.R (Kd.int .i64) 3 wr w.heap.size (fun k => w.heap.size ≤ k ∧ k < s1) vF L ∧ Kd.R k23 23 wr w.heap.size (fun k => s2 ≤ k ∧ k < s3) vb lb ∧ (∃ la, la.length = n ∧ Kd.R k23 23 wr w.heap.size (fun k => (s1 ≤ k ∧ k < s2) ∨ s3 ≤ k) va la) ∧
    Below w.heap.size w wr ∧ s3 ≤ wr.heap.size ∧ w.heap.size ≤ s1 ∧ s1 ≤ s2 ∧ s2 ≤ s3
theorem C23.put {w wr : World} {s1 s2 s3 : Nat} {vF : Value} {L : List Int} {vb : Value} {lb : List S23} {va : Value} {n : Nat} (h : C23 w wr s1 s2 s3 vF L vb lb va n) (i : Nat) (hi : i < n) (x : S23) :
    ∃ g c, va = .slice (some ⟨g, 0, none⟩) n c ∧
      (∃ (a0 : Int) (a1 : ByteArray), wr.cell? ⟨g, i * 2, none⟩ = some (.int .i64 a0) ∧ wr.cell? ⟨g, i * 2 + 1, none⟩ = some (.string a1)) ∧
      (wr.frozen? ⟨g, i * 2, none⟩ = false ∧ wr.frozen? ⟨g, i * 2 + 1, none⟩ = false) ∧
      C23 w ((wr.setCell ⟨g, i * 2, none⟩ (.int .i64 x.f0)).setCell ⟨g, i * 2 + 1, none⟩ (.string x.f1)) s1 s2 s3 vF L vb lb va n := by
  obtain ⟨h1, h2, ⟨la, rfl, h3⟩, h4, h5, h6, h7, h8⟩ := h
  obtain ⟨g, c, e, hPg, hbg, hx, hf, hR2, hg⟩ := putC23 h3 i hi x
  refine ⟨g, c, e, hx, hf, Kd.R_grown h1 hg (fun k hk e => ?_), Kd.R_grown h2 hg (fun k hk e => ?_), ⟨la.set i x, by simp, hR2⟩, (h4.setCell hbg _).setCell hbg _, Nat.le_trans h5 hg.size, h6, h7, h8⟩
  · injection e with e; subst e; omega
  · injection e with e; subst e; omega
theorem C23.app {w wr w1 : World} {s1 s2 s3 : Nat} {vF : Value} {L : List Int} {vb : Value} {lb : List S23} {va v1 : Value} {n : Nat} {la : List S23} {x : S23} (h : C23 w wr s1 s2 s3 vF L vb lb va n) (hla : la.length = n) (h3 : Kd.R k23 23 wr w.heap.size (fun k => (s1 ≤ k ∧ k < s2) ∨ s3 ≤ k) va la)
    (ho : Kd.R k23 23 w1 w.heap.size (fun k => (s1 ≤ k ∧ k < s2) ∨ s3 ≤ k) v1 (la ++ [x])) (hb : Below w.heap.size w w1) (hg : wr.grownBy w1 va.ownBlock) : C23 w w1 s1 s2 s3 vF L vb lb v1 (n + 1) := by
  obtain ⟨h1, h2, _, h4, h5, h6, h7, h8⟩ := h
  refine ⟨Kd.R_grown h1 hg (fun k hk e => ?_), Kd.R_grown h2 hg (fun k hk e => ?_), ⟨la ++ [x], by simp [hla], ho⟩, hb, Nat.le_trans h5 hg.size, h6, h7, h8⟩
  · have := h3.1 k e.symm; omega
  · have := h3.1 k e.symm; omega

set_option maxHeartbeats 4000000 in
set_option maxRecDepth 100000 in
theorem LinesSplits_walk (t : ByteArray) (A0 : Option Addr) (c0 : Nat) (l : List Int) (w : World) (ht : t.size ≤ 140737488351232) (hr0 : Kd.C (Kd.int .i64) w A0 l.length l) (hc0 : l.length ≤ c0) (hl : l.length ≤ 17592186043904) :
    Calls Try.prog 6 #[.string t, .slice A0 l.length c0] w fun e w' => e = .returned (.bool true) ∧ Below w.heap.size w w' := by
  obtain ⟨k, hk⟩ : ∃ k, 8388700 * 2000 + 4 * l.length + 1000 < k := ⟨_, Nat.lt_succ_self _⟩
  have HR := Aside0.mk hr0
  have HC := Aside0.mk hc0
  have hroom := Aside0.mk (roomy_eq l hl k (by omega))
  obtain ⟨L, hL⟩ : ∃ L, L = roomI l := ⟨_, rfl⟩
  have hLl : L.length = l.length + 64 := by rw [hL, roomI_length]
  have hsm := Aside0.mk (sameI_eq L (by omega) k (by omega))
  have hLt := Aside0.mk (show L.take l.length = l by rw [hL]; exact List.take_left)
  rw [← hL] at hroom
  obtain ⟨I, hI⟩ : ∃ I, I = upI l.reverse := ⟨_, rfl⟩
  have il : I.length = l.length := by rw [hI, upI_length, List.length_reverse]
  have hback := Aside0.mk (back_eq l hl k (by omega))
  rw [← hI] at hback
  obtain ⟨⟨T, er⟩, hT⟩ : ∃ T, T = splitsL t l := ⟨_, rfl⟩
  have hTl : T.length ≤ 1000 := by have := splitsL_length t l; rw [← hT] at this; exact this
  obtain ⟨n1, hn1⟩ : ∃ n1, n1 = T.length := ⟨_, rfl⟩
  have hp := (show lines_Splits.f t l = some _ from by unfold lines_Splits.f; rw [if_pos ⟨ht, by first | omega | (rw [il]; omega)⟩])
  rw [← hT] at hp
  have hrp := RefSplits_eq t l k (by omega)
  rw [← hT] at hrp
  have HP := Aside0.mk hp
  have HRP := Aside0.mk hrp
  have hsmT := Aside0.mk (same23_eq T (by omega) k (by omega))
  obtain ⟨⟨T2, er2⟩, hT2⟩ : ∃ T, T = splitsL t I := ⟨_, rfl⟩
  have hT2l : T2.length ≤ 1000 := by have := splitsL_length t I; rw [← hT2] at this; exact this
  have hp2 := (show lines_Splits.f t I = some _ from by unfold lines_Splits.f; rw [if_pos ⟨ht, by first | omega | (rw [il]; omega)⟩])
  rw [← hT2] at hp2
  have hrp2 := RefSplits_eq t I k (by omega)
  rw [← hT2] at hrp2
  have HP2 := Aside0.mk hp2
  have HRP2 := Aside0.mk hrp2
  have hsmT2 := Aside0.mk (same23_eq T2 (by omega) k (by omega))
  have HLl := Aside0.mk hLl
  have HN1 := Aside0.mk hn1
  have HIl := Aside0.mk il
  have hnb : (n1 : Int) ≤ 1000 := by omega
  have HTL := Aside0.mk hTl
  have hLle : l.length ≤ L.length := by omega
  have hlmax : (l.length : Int) ≤ 17592186043904 := by omega
  have hwN : IntKind.i64.wrap ((n1 : Int) + 64) = ((n1 + 64 : Nat) : Int) := by rw [IntKind.wrap_i64]; omega
  obtain ⟨i0, hi0, _, _, _⟩ := info_parts info3
  clear hr0 hc0 hk hL hLl hT hI hT2 hTl il hT2l hl hp hrp hp2 hrp2 hn1 ht
  go_enter Try.func6, Try.ntmps6
  go_wp2_with fail
  -- full
  refine (winnowlaw13_roomy.calls k A0 c0 l L w HR.out HC.out hroom.out).mono ?_
  rintro e w1 ⟨v1, rfl, hF, hB⟩
  obtain ⟨A1, c1, rfl, hc1, hC1⟩ := Kd.R_reads hF
  have hcut1 := cut_to (P := Try.prog) 42 3 .i64 Try.underlying42 hi0 A1 L.length c1 (l.length : Int) (by omega) (by have := HLl.out; omega) hc1
  rw [Int.toNat_natCast] at hcut1
  have hs1 := Aside0.mk hB.size
  have HF := Aside0.mk (own_inC23 hF (Nat.le_refl _))
  have HB := Aside0.mk hB
  have HC1 := Aside0.mk hc1
  have hinc := Aside0.mk (show l.length ≤ c1 by have := HLl.out; omega)
  have hinC : ∀ W (S : Nat → Prop), Kd.R (Kd.int .i64) 3 W w.heap.size S (.slice A1 L.length c1) L → Kd.C (Kd.int .i64) W A1 l.length l := by
    intro W S h
    have := Kd.R_take h hLle
    rw [hLt.out] at this
    exact (Kd.R_reads' this).2.2
  have HinC := Aside0.mk hinC
  clear hF hB hc1 hC1 hinC
  go_wp2_with fail
  -- a
  refine (lines_Splits.calls t A1 c1 l T er _ (HinC.out _ _ HF.out) hinc.out HP.out).mono ?_
  rintro e w2 ⟨vt, rfl, hT, hB2⟩
  have HB2 := Aside0.mk (below_step HB.out hB2)
  have HF2 := Aside0.mk (Kd.R_below HF.out hB2)
  have HT := Aside0.mk (own_inC23 hT (below_size HB.out))
  have hs2 := Aside0.mk hB2.size
  clear hT hB2
  go_wp2_with fail
  -- b
  refine (lines_Splits.calls t A1 c1 l T er _ (HinC.out _ _ HF2.out) hinc.out HP.out).mono ?_
  rintro e w3 ⟨vu, rfl, hU, hB3⟩
  have hs3 := Aside0.mk hB3.size
  have HCS : Aside0 (C23 w w3 w1.heap.size w2.heap.size w3.heap.size (.slice A1 L.length c1) L vu T vt n1) :=
    ⟨Kd.R_below HF2.out hB3, own_inC23 hU (below_size HB2.out), ⟨T, HN1.out.symm, Kd.R_mono (Kd.R_below HT.out hB3) (fun k h => .inl h)⟩, below_step HB2.out hB3, Nat.le_refl _, hs1.out, hs2.out, hs3.out⟩
  obtain ⟨At, ct, rfl⟩ := Kd.R_slice HT.out
  rw [← HN1.out] at HCS
  clear hU hB3 HT HF2 HF HB HB2
  rw [← HN1.out]
  go_wp2_with fail
  go_loopw [10] (fun v wr => ∃ i : Nat, i ≤ n1 ∧ v = .int .i64 i ∧ Aside0 (C23 w wr w1.heap.size w2.heap.size w3.heap.size (.slice A1 L.length c1) L vu T (.slice At n1 ct) n1)) (fun v _ => n1 - (intOf v).toNat)
  case atStart => exact ⟨0, by omega, rfl, HCS⟩
  case round =>
    clear HCS
    obtain ⟨i, hi, rfl, hS⟩ := hrel
    by_cases hlt : i < n1
    · have hd1 : decide ((i : Int) < (n1 : Int)) = true := by simp; omega
      have hd2 : decide (i < n1) = true := by simp; omega
      obtain ⟨g, c, e, ⟨a0, a1, hx30, hx31⟩, ⟨hf0, hf1⟩, hS2⟩ := hS.out.put i hlt ⟨-5, ⟨#[]⟩⟩
      injection e with e1 e2 e3
      subst e1 e3
      have HS2 := Aside0.mk hS2
      clear hS2 hS
      go_wp2_with fail
      go_roundw
      case rel => exact ⟨i + 1, by omega, by go_num, HS2⟩
      case measure => simp [intOf]; omega
    · obtain rfl : i = n1 := by omega
      go_wp2_with fail
      go_loopw [6, 11] (fun va v wr => ∃ m : Nat, m ≤ 64 ∧ v = .int .i64 m ∧ Aside0 (C23 w wr w1.heap.size w2.heap.size w3.heap.size (.slice A1 L.length c1) L vu T va (i + m))) (fun _ v _ => 64 - (intOf v).toNat)
      case atStart => exact ⟨0, by omega, rfl, hS⟩
      case round =>
        clear hS
        obtain ⟨m, hm, rfl, hQ⟩ := hrel
        by_cases hlt3 : m < 64
        · have hd1 : decide ((m : Int) < 64) = true := by simp; omega
          have hQ2 := hQ.out
          obtain ⟨q1, q2, ⟨la, q3, q4⟩, q5, q6, q7, q8, q9⟩ := hQ2
          have Q3 := Aside0.mk q3
          have Q4 := Aside0.mk q4
          have Q5 := Aside0.mk q5
          have Q6 := Aside0.mk (Nat.le_trans q7 (Nat.le_trans q8 (Nat.le_trans q9 q6)))
          have Q7 := Aside0.mk (show ∀ k, wr.heap.size ≤ k → ((w1.heap.size ≤ k ∧ k < w2.heap.size) ∨ w3.heap.size ≤ k) from fun k hk => .inr (by omega))
          have Q8 := Aside0.mk (show (la.length + 1) * 24 ≤ 140737488355328 by omega)
          have GA := Aside0.mk (fun (v1 : Value) (w1' : World) => C23.app (w1 := w1') (v1 := v1) (x := ⟨-6, ⟨#[]⟩⟩) hQ.out q3 q4)
          clear q1 q2 q3 q4 q5 q6 q7 q8 q9 hQ
          go_wp2_with (first | ((with_reducible refine gate_builtin (b := .append) (xs := #[.tmp 52, .tmp 54]) rfl ?_); at_builtin; refine Kd.R_append k23 (w0 := w) w.heap.size rfl (.tmp 52) (.tmp 54) 50 23 (.agg #[.int .i64 0, .string ⟨#[]⟩]) 24 rfl Try.underlying50 info23 rfl (by decide) (by omega) u6 la ⟨-6, ⟨#[]⟩⟩ [.int .i64 (-6), .string ⟨#[]⟩] (fun k => (w1.heap.size ≤ k ∧ k < w2.heap.size) ∨ w3.heap.size ≤ k) (fun _ => False) rfl rfl (k23_mkM _ _ _ _) (fun _ hk => hk.elim) Q7.out Q4.out Q5.out Q6.out Q8.out ?_; intro v1 w1' ho hb hg hat; have HQ2 := Aside0.mk (GA.out v1 w1' ho hb hg); clear ho hb hg hat GA Q3 Q4 Q5 Q6 Q7 Q8))
          go_roundw
          case rel => exact ⟨m + 1, by omega, by go_num, HQ2⟩
          case measure => simp [intOf]; omega
        · obtain rfl : m = 64 := by omega
          obtain ⟨q1, q2, ⟨la, q3, q4⟩, q5, q6, q7, q8, q9⟩ := hQ.out
          obtain ⟨Ax, cx, rfl⟩ := Kd.R_slice q4
          rw [q3]
          have HF4 := Aside0.mk q1
          have HU4 := Aside0.mk q2
          have HB4 := Aside0.mk q5
          have hs4 := Aside0.mk q6
          clear q1 q2 q3 q4 q5 q6 q7 q8 q9 hQ
          go_wp2_with fail
          -- ref
          refine (winnowref13_Splits.calls k t A0 c0 l T er _ (Kd.C_below HR.out HB4.out) HC.out HRP.out).mono ?_
          rintro e w5 ⟨vw, rfl, hW, hB5⟩
          have HF5 := Aside0.mk (Kd.R_below HF4.out hB5)
          have HU5 := Aside0.mk (Kd.R_below HU4.out hB5)
          have hs5 := Aside0.mk hB5.size
          have HB5 := Aside0.mk (below_step HB4.out hB5)
          have HW5 := Aside0.mk (own_inC23 hW (below_size HB4.out))
          obtain ⟨Aw, cw, rfl, hcw, hCw⟩ := Kd.R_reads hW
          obtain ⟨Au, cu, rfl, hcu, hCu⟩ := Kd.R_reads HU5.out
          have Hcu := Aside0.mk hcu
          have Hcw := Aside0.mk hcw
          clear hW hB5
          go_wp2_with fail
          refine (winnowlaw13_sameSplits.calls k Au cu T Aw cw T _ _ hCu hcu hCw hcw hsmT.out).mono ?_
          rintro e w6 ⟨rfl, hD⟩
          have HF6 := Aside0.mk (Kd.R_below HF5.out hD.below)
          have HU6 := Aside0.mk (Kd.R_below HU5.out hD.below)
          have HW6 := Aside0.mk (Kd.R_below HW5.out hD.below)
          have HB6 := Aside0.mk (below_step HB5.out hD.below)
          have hs6 := Aside0.mk hD.below.size
          clear hD hCu hcu hCw hcw
          rw [← HN1.out]
          go_wp2_with fail
          refine (winnowlaw13_roomy.calls k A0 c0 l L _ (Kd.C_below HR.out HB6.out) HC.out hroom.out).mono ?_
          rintro e w7 ⟨vr, rfl, hR, hB7⟩
          have HF7 := Aside0.mk (Kd.R_below HF6.out hB7)
          have HU7 := Aside0.mk (Kd.R_below HU6.out hB7)
          have HW7 := Aside0.mk (Kd.R_below HW6.out hB7)
          have HB7 := Aside0.mk (below_step HB6.out hB7)
          have hs7 := Aside0.mk hB7.size
          obtain ⟨Ar, cr, rfl, hcr, hCr⟩ := Kd.R_reads hR
          clear hB7 hR
          go_wp2_with fail
          refine (winnowlaw13_sameInts.calls k A1 c1 L Ar cr L _ _ (Kd.R_reads' HF7.out).2.2 HC1.out hCr hcr hsm.out).mono ?_
          rintro e w8 ⟨rfl, hD⟩
          have HF8 := Aside0.mk (Kd.R_below HF7.out hD.below)
          have HU8 := Aside0.mk (Kd.R_below HU7.out hD.below)
          have HW8 := Aside0.mk (Kd.R_below HW7.out hD.below)
          have HB8 := Aside0.mk (below_step HB7.out hD.below)
          have hs8 := Aside0.mk hD.below.size
          clear hD hCr hcr
          have HIN8 := Aside0.mk (Kd.R_take HF8.out hLle)
          rw [hLt.out] at HIN8
          go_wp2_with fail
          -- back(full)
          refine (winnowlaw13_back.calls_in k _ _ l I w _ HB8.out HIN8.out hback.out).mono ?_
          rintro e w9 ⟨rfl, hF9, hB9, hK9⟩
          have HB9 := Aside0.mk hB9
          have hs9 := Aside0.mk hK9.1
          have hIC := Aside0.mk (Kd.R_reads' hF9).2.2
          have HU9 := Aside0.mk (Kd.R_kept HU8.out hK9 (fun k h => by have := hs2.out; have := hs3.out; omega))
          have HW9 := Aside0.mk (Kd.R_kept HW8.out hK9 (fun k h => by have := hs2.out; have := hs3.out; have := hs4.out; omega))
          have hic1 := Aside0.mk (show I.length ≤ c1 by have := hinc.out; have := HIl.out; omega)
          clear hF9 hB9 hK9
          go_wp2_with fail
          -- c
          have q := lines_Splits.calls t A1 c1 I T2 er2 _ hIC.out hic1.out HP2.out
          rw [HIl.out] at q
          refine q.mono ?_
          clear q
          rintro e w10 ⟨vc, rfl, hc, hB10⟩
          have HU10 := Aside0.mk (Kd.R_below HU9.out hB10)
          have HW10 := Aside0.mk (Kd.R_below HW9.out hB10)
          have HCc := Aside0.mk (own_inC23 hc (below_size HB9.out))
          have HB10 := Aside0.mk (below_step HB9.out hB10)
          have hs10 := Aside0.mk hB10.size
          clear hc hB10
          go_wp2_with fail
          -- roomy again
          refine (winnowlaw13_roomy.calls k A0 c0 l L _ (Kd.C_below HR.out HB10.out) HC.out hroom.out).mono ?_
          rintro e w11 ⟨v11, rfl, hF11, hB11⟩
          have HU11 := Aside0.mk (Kd.R_below HU10.out hB11)
          have HW11 := Aside0.mk (Kd.R_below HW10.out hB11)
          have HCc11 := Aside0.mk (Kd.R_below HCc.out hB11)
          have HB11 := Aside0.mk (below_step HB10.out hB11)
          have hs11 := Aside0.mk hB11.size
          obtain ⟨A8, c8, rfl, hc8, hC8⟩ := Kd.R_reads hF11
          have HO11 := Aside0.mk (own_inC23 (Kd.R_take hF11 hLle) (below_size HB10.out))
          rw [hLt.out] at HO11
          have hcut8 := cut_to (P := Try.prog) 42 3 .i64 Try.underlying42 hi0 A8 L.length c8 (l.length : Int) (by omega) (by have := HLl.out; omega) hc8
          rw [Int.toNat_natCast] at hcut8
          have Hc8 := Aside0.mk (show l.length ≤ c8 by have := HLl.out; omega)
          clear hF11 hB11 hC8 hc8
          go_wp2_with fail
          refine (winnowlaw13_back.calls_in k _ _ l I w _ HB11.out HO11.out hback.out).mono ?_
          rintro e w12 ⟨rfl, hF12, hB12, hK12⟩
          have HB12 := Aside0.mk hB12
          have HU12 := Aside0.mk (Kd.R_kept HU11.out hK12 (fun k h => by have := hs3.out; have := hs4.out; have := hs5.out; have := hs6.out; have := hs7.out; have := hs8.out; have := hs9.out; have := hs10.out; omega))
          have HW12 := Aside0.mk (Kd.R_kept HW11.out hK12 (fun k h => by have := hs5.out; have := hs6.out; have := hs7.out; have := hs8.out; have := hs9.out; have := hs10.out; omega))
          have HCc12 := Aside0.mk (Kd.R_kept HCc11.out hK12 (fun k h => by have := hs10.out; omega))
          have hOC := Aside0.mk (Kd.R_reads' hF12).2.2
          have hic8 := Aside0.mk (show I.length ≤ c8 by have := Hc8.out; have := HIl.out; omega)
          clear hF12 hB12 hK12
          go_wp2_with fail
          have q := winnowref13_Splits.calls k t A8 c8 I T2 er2 _ hOC.out hic8.out HRP2.out
          rw [HIl.out] at q
          refine q.mono ?_
          clear q
          rintro e w13 ⟨vz, rfl, hZ, hB13⟩
          have HB13 := Aside0.mk (below_step HB12.out hB13)
          have HU13 := Aside0.mk (Kd.R_below HU12.out hB13)
          have HW13 := Aside0.mk (Kd.R_below HW12.out hB13)
          obtain ⟨Ac, cc, rfl, hcc, hCC⟩ := Kd.R_reads (Kd.R_below HCc12.out hB13)
          obtain ⟨Az, cz, rfl, hcz, hCz⟩ := Kd.R_reads hZ
          clear hB13 hZ
          go_wp2_with fail
          refine (winnowlaw13_sameSplits.calls k Ac cc T2 Az cz T2 _ _ hCC hcc hCz hcz hsmT2.out).mono ?_
          rintro e w14 ⟨rfl, hD⟩
          have hCu := (Kd.R_reads' (Kd.R_below HU13.out hD.below)).2.2
          have hCw := (Kd.R_reads' (Kd.R_below HW13.out hD.below)).2.2
          have HB14 := Aside0.mk (below_step HB13.out hD.below)
          clear hD hCC hcc hCz hcz
          rw [HN1.out]
          go_wp2_with fail
          refine (winnowlaw13_sameSplits.calls k Au cu T Aw cw T _ _ hCu Hcu.out hCw Hcw.out hsmT.out).mono ?_
          rintro e w16 ⟨rfl, hD⟩
          have HB16 := Aside0.mk (below_step HB14.out hD.below)
          clear hD hCu hCw
          go_wp2_with fail
          go_ret
          exact ⟨by first | rfl | (simp; done), HB16.out⟩

/-- The law as a function with a contract: true of whatever is not too long. -/
def winnowlaw13_LinesSplits.f (t : ByteArray) (l : List Int) : Option Bool := if l.length ≤ 17592186043904 ∧ t.size ≤ 140737488351232 then some true else none
theorem winnowlaw13_LinesSplits.calls (t : ByteArray) (A0 : Option Addr) (c0 : Nat) (l : List Int) (r : Bool) (w : World) (hr0 : Kd.C (Kd.int .i64) w A0 l.length l) (hc0 : l.length ≤ c0) (h : winnowlaw13_LinesSplits.f t l = some r) :
    Calls Try.prog 6 #[.string t, .slice A0 l.length c0] w fun e w' => e = .returned (.bool r) ∧ Below w.heap.size w w' := by
  unfold winnowlaw13_LinesSplits.f at h
  by_cases hl : l.length ≤ 17592186043904 ∧ t.size ≤ 140737488351232
  · rw [if_pos hl] at h
    injection h with h
    subst h
    exact LinesSplits_walk t A0 c0 l w hl.2 hr0 hc0 hl.1
  · rw [if_neg hl] at h
    cases h
end Go.Proofs.Ytbcggfjfgoabpaa.P

end
